/- The law CntRings: Sub undoes Add, Half undoes Shift, Parse undoes Text, Mul commutes and distributes. -/
import Derived.Test.YtncdacafdfknnaaDoorCnt5
namespace Go.Proofs.YtncdacafdfknnaaDoor
open Go.ChangeShapes Go.WideShapes Go.ChangeAt Go.RowKit
open Go.ChangeMaps (open_string shut_string)
set_option linter.unusedVariables false

theorem decS_size (x : Nat) : (decS x).size ≤ (digs 10 x).length + 1 := by
  by_cases hx : x = 0
  · subst hx; decide
  · have h : (bs (decS x)).length = (digs 10 x).length := by
      rw [decS_eq, if_neg hx, bs_txt, decL]
      simp
    rw [bs_length] at h
    omega
theorem cmpI_negw (x y : Nat) : (cmpI x y == wrap64 (-cmpI y x)) = true := by
  rcases Nat.lt_trichotomy x y with h | h | h
  · rw [cmpI_lt h, cmpI_gt h]; kernel_rfl
  · rw [cmpI_eq h, cmpI_eq h.symm]; kernel_rfl
  · rw [cmpI_gt h, cmpI_lt h]; kernel_rfl
set_option maxRecDepth 100000 in
set_option maxHeartbeats 8000000 in
theorem cntRings_any (A1 A2 A3 : Option Addr) (m1 c1 m2 c2 m3 c3 : Nat) (l1 l2 l3 : List Nat) (W : World) (h1 : SAt W A1 m1 c1 l1) (h2 : SAt W A2 m2 c2 l2) (h3 : SAt W A3 m3 c3 l3) :
    Calls Tryd.prog 6 #[.slice A1 m1 c1, .slice A2 m2 c2, .slice A3 m3 c3] W fun e W' => e = .returned (.bool true) ∧ Below W.heap.size W W' := by
  have HF := Lib.hid (few3 A1 A2 A3 m1 c1 m2 c2 m3 c3 l1 l2 l3 W h1 h2 h3)
  have hb0 := (Below.refl W.heap.size W).alloc (Nat.le_refl _) (.cells #[.slice A1 m1 c1, .slice A2 m2 c2, .slice A3 m3 c3] 23)
  have H1 := Lib.hid (h1.below hb0 rfl)
  have H2 := Lib.hid (h2.below hb0 rfl)
  have H3 := Lib.hid (h3.below hb0 rfl)
  have HB := Lib.hid hb0
  clear h1 h2 h3 hb0
  obtain ⟨fb, hfb⟩ : ∃ fb, fb = fewB [l1, l2, l3] := ⟨_, rfl⟩
  rw [← hfb] at HF
  go_enter Tryd.func6, Tryd.ntmps6
  go_wp2_with fail
  refine (HF.out).mono ?_
  rintro e w0 ⟨rfl, hw⟩
  rw [← hw]
  clear hw HF
  obtain ⟨W1, hW1⟩ : ∃ W1, W1 = W.alloc (.cells #[.slice A1 m1 c1, .slice A2 m2 c2, .slice A3 m3 c3] 23) := ⟨_, rfl⟩
  rw [← hW1]
  rw [← hW1] at H1 H2 H3 HB
  clear hW1
  have hz := HB.out.size
  cases fb
  · clear hfb
    go_wp2_with fail
    have hcc := lives_any W1
    have HCC := Lib.hid hcc
    clear hcc
    refine (HCC.out).mono ?_
    rintro e w2 ⟨rfl, hb2⟩
    clear HCC
    replace HB := Lib.hid (HB.out.trans (hb2.mono hz))
    replace hz := HB.out.size
    clear hb2
    go_wp2_with fail
    go_ret
    exact ⟨rfl, HB.out⟩
  · have hfm := fewB_mem hfb.symm
    have hl1 := hfm.1 l1 (by simp)
    have hl2 := hfm.1 l2 (by simp)
    have hl3 := hfm.1 l3 (by simp)
    replace H1 := Lib.hid (H1.out.bat hl1)
    replace H2 := Lib.hid (H2.out.bat hl2)
    replace H3 := Lib.hid (H3.out.bat hl3)
    have hm1 : m1 ≤ 40 := by rw [H1.out.len]; exact hl1
    have hm2 : m2 ≤ 40 := by rw [H2.out.len]; exact hl2
    have hm3 : m3 ≤ 40 := by rw [H3.out.len]; exact hl3
    clear hfm hl1 hl2 hl3 hfb
    obtain ⟨x, hx⟩ : ∃ x, x = val B32 l1 := ⟨_, rfl⟩
    obtain ⟨y, hy⟩ : ∃ y, y = val B32 l2 := ⟨_, rfl⟩
    obtain ⟨z, hz'⟩ : ∃ z, z = val B32 l3 := ⟨_, rfl⟩
    obtain ⟨S, hS⟩ : ∃ S, S = x + y := ⟨_, rfl⟩
    obtain ⟨T, hT⟩ : ∃ T, T = decS S := ⟨_, rfl⟩
    obtain ⟨q1, hq1⟩ : ∃ q1, q1 = cmpI x y := ⟨_, rfl⟩
    obtain ⟨q2, hq2⟩ : ∃ q2, q2 = cmpI y x := ⟨_, rfl⟩
    have HX := Lib.hid hx
    have HY := Lib.hid hy
    have HZ := Lib.hid hz'
    have HS := Lib.hid hS
    have HT := Lib.hid hT
    have HQ1 := Lib.hid hq1
    have HQ2 := Lib.hid hq2
    have hq12 : (q1 == wrap64 (-q2)) = true := by rw [hq1, hq2]; exact cmpI_negw x y
    have HSY := Lib.hid (show S - y = x by omega)
    have HLE := Lib.hid (show decide (y ≤ S) = true from decide_eq_true (by omega))
    have HH1 := Lib.hid (show S * 2 ^ clampK 1 / 2 = S by show S * 2 ^ 1 / 2 = S; omega)
    have HH2 := Lib.hid (show decide (S * 2 ^ clampK 1 % 2 = 1) = false from decide_eq_false (by show ¬ S * 2 ^ 1 % 2 = 1; omega))
    have HCX := Lib.hid (cmpI_eq (x := x) (y := x) rfl)
    have HD1 := Lib.hid (show S * z = x * z + y * z by rw [HS.out, Nat.add_mul])
    have HD2 := Lib.hid (Nat.mul_comm x y)
    clear hx hy hz' hS hT hq1 hq2
    go_wp2_with fail
    have hcc := add2 A1 A2 m1 c1 m2 c2 l1 l2 W1 H1.out H2.out (by omega) (by omega)
    rw [← HX.out, ← HY.out, ← HS.out] at hcc
    have HCC := Lib.hid hcc
    clear hcc
    refine (HCC.out).mono ?_
    rintro e w2 ⟨A4, m4, c4, rfl, ha2, hm4, hb2⟩
    clear HCC
    replace H1 := Lib.hid (H1.out.below hb2 rfl)
    replace H2 := Lib.hid (H2.out.below hb2 rfl)
    replace H3 := Lib.hid (H3.out.below hb2 rfl)
    replace HB := Lib.hid (HB.out.trans (hb2.mono hz))
    replace hz := HB.out.size
    clear hb2
    have HA := Lib.hid ha2
    clear ha2
    go_wp2_with fail
    have hcc := sub_b A4 A2 m4 c4 m2 c2 _ l2 w2 HA.out H2.out
    rw [vd, ← HY.out, HSY.out, HLE.out] at hcc
    have HCC := Lib.hid hcc
    clear hcc
    refine (HCC.out).mono ?_
    rintro e w3 ⟨A5, m5, c5, rfl, ha3, hm5, hb3⟩
    clear HCC
    replace H1 := Lib.hid (H1.out.below hb3 rfl)
    replace H2 := Lib.hid (H2.out.below hb3 rfl)
    replace H3 := Lib.hid (H3.out.below hb3 rfl)
    replace HA := Lib.hid (HA.out.below hb3 rfl)
    replace HB := Lib.hid (HB.out.trans (hb3.mono hz))
    replace hz := HB.out.size
    clear hb3
    have HD := Lib.hid ha3
    clear ha3
    go_wp2_with fail
    have hcc := shift_b A4 m4 c4 _ 1 w3 HA.out (by omega)
    rw [vd] at hcc
    have HCC := Lib.hid hcc
    clear hcc
    refine (HCC.out).mono ?_
    rintro e w4 ⟨A6, m6, c6, rfl, ha4, hm6, hb4⟩
    clear HCC
    replace H1 := Lib.hid (H1.out.below hb4 rfl)
    replace H2 := Lib.hid (H2.out.below hb4 rfl)
    replace H3 := Lib.hid (H3.out.below hb4 rfl)
    replace HA := Lib.hid (HA.out.below hb4 rfl)
    replace HD := Lib.hid (HD.out.below hb4 rfl)
    replace HB := Lib.hid (HB.out.trans (hb4.mono hz))
    replace hz := HB.out.size
    clear hb4
    have HE := Lib.hid ha4
    clear ha4
    go_wp2_with fail
    have hcc := half_b A6 m6 c6 _ w4 HE.out
    rw [vd, HH1.out, HH2.out] at hcc
    have HCC := Lib.hid hcc
    clear hcc
    refine (HCC.out).mono ?_
    rintro e w5 ⟨A7, m7, c7, rfl, ha5, hm7, hb5⟩
    clear HCC
    replace H1 := Lib.hid (H1.out.below hb5 rfl)
    replace H2 := Lib.hid (H2.out.below hb5 rfl)
    replace H3 := Lib.hid (H3.out.below hb5 rfl)
    replace HA := Lib.hid (HA.out.below hb5 rfl)
    replace HD := Lib.hid (HD.out.below hb5 rfl)
    replace HE := Lib.hid (HE.out.below hb5 rfl)
    replace HB := Lib.hid (HB.out.trans (hb5.mono hz))
    replace hz := HB.out.size
    clear hb5
    have HG := Lib.hid ha5
    clear ha5
    clear HE
    have hTl : T.size ≤ 2000 := by rw [HT.out]; have h1 := len_val (HA.out.dig); rw [vd, ← HA.out.len] at h1; have h2 := decS_size S; omega
    have hTm : T.size ≤ maxLen := by unfold maxLen; omega
    have HTM := Lib.hid hTm
    clear hTm
    have hps : parseS (bs T) = (S, 0) := by rw [HT.out]; refine back_text ?_; have h1 := len_val (HA.out.dig); rw [vd, ← HA.out.len] at h1; omega
    have HPS := Lib.hid hps
    clear hps
    go_wp2_with fail
    have hcc := text_b A4 m4 c4 _ w5 HA.out
    rw [vd, ← HT.out] at hcc
    have HCC := Lib.hid hcc
    clear hcc
    refine (HCC.out).mono ?_
    rintro e w6 ⟨rfl, hb6⟩
    clear HCC
    replace H1 := Lib.hid (H1.out.below hb6 rfl)
    replace H2 := Lib.hid (H2.out.below hb6 rfl)
    replace H3 := Lib.hid (H3.out.below hb6 rfl)
    replace HA := Lib.hid (HA.out.below hb6 rfl)
    replace HD := Lib.hid (HD.out.below hb6 rfl)
    replace HG := Lib.hid (HG.out.below hb6 rfl)
    replace HB := Lib.hid (HB.out.trans (hb6.mono hz))
    replace hz := HB.out.size
    clear hb6
    have hSl : (parseS (bs T)).1 < B32 ^ 800 := by rw [HPS.out]; have h1 := HA.out.lt; rw [vd] at h1; exact lt_gen S B32 800 m4 (by decide) h1 (by omega)
    have HSL := Lib.hid hSl
    clear hSl
    go_wp2_with fail
    have hcc := parse_b T w6 HTM.out HSL.out
    rw [HPS.out] at hcc
    have HCC := Lib.hid hcc
    clear hcc
    refine (HCC.out).mono ?_
    rintro e w7 ⟨A8, m8, c8, rfl, ha7, hm8, hb7⟩
    clear HCC
    replace H1 := Lib.hid (H1.out.below hb7 rfl)
    replace H2 := Lib.hid (H2.out.below hb7 rfl)
    replace H3 := Lib.hid (H3.out.below hb7 rfl)
    replace HA := Lib.hid (HA.out.below hb7 rfl)
    replace HD := Lib.hid (HD.out.below hb7 rfl)
    replace HG := Lib.hid (HG.out.below hb7 rfl)
    replace HB := Lib.hid (HB.out.trans (hb7.mono hz))
    replace hz := HB.out.size
    clear hb7
    have HP := Lib.hid ha7
    clear ha7
    go_wp2_with fail
    have hcc := cmp_b A5 A1 m5 c5 m1 c1 _ l1 w7 HD.out H1.out
    rw [vd, ← HX.out, HCX.out] at hcc
    have HCC := Lib.hid hcc
    clear hcc
    refine (HCC.out).mono ?_
    rintro e w8 ⟨rfl, nd, hw⟩
    have hb8 : Below w7.heap.size w7 w8 := by rw [hw]; exact bdrewN (Below.refl _ _) nd
    clear hw HCC
    replace H1 := Lib.hid (H1.out.below hb8 rfl)
    replace H2 := Lib.hid (H2.out.below hb8 rfl)
    replace H3 := Lib.hid (H3.out.below hb8 rfl)
    replace HA := Lib.hid (HA.out.below hb8 rfl)
    replace HD := Lib.hid (HD.out.below hb8 rfl)
    replace HG := Lib.hid (HG.out.below hb8 rfl)
    replace HP := Lib.hid (HP.out.below hb8 rfl)
    replace HB := Lib.hid (HB.out.trans (hb8.mono hz))
    replace hz := HB.out.size
    clear hb8
    go_wp2_with fail
    have hcc := same_b A7 A4 m7 c7 m4 c4 S S w8 HG.out HA.out rfl
    have HCC := Lib.hid hcc
    clear hcc
    refine (HCC.out).mono ?_
    rintro e w9 ⟨rfl, nd, hw⟩
    have hb9 : Below w8.heap.size w8 w9 := by rw [hw]; exact bdrewN (Below.refl _ _) nd
    clear hw HCC
    replace H1 := Lib.hid (H1.out.below hb9 rfl)
    replace H2 := Lib.hid (H2.out.below hb9 rfl)
    replace H3 := Lib.hid (H3.out.below hb9 rfl)
    replace HA := Lib.hid (HA.out.below hb9 rfl)
    replace HD := Lib.hid (HD.out.below hb9 rfl)
    replace HG := Lib.hid (HG.out.below hb9 rfl)
    replace HP := Lib.hid (HP.out.below hb9 rfl)
    replace HB := Lib.hid (HB.out.trans (hb9.mono hz))
    replace hz := HB.out.size
    clear hb9
    go_wp2_with fail
    have hcc := same_b A8 A4 m8 c8 m4 c4 S S w9 HP.out HA.out rfl
    have HCC := Lib.hid hcc
    clear hcc
    refine (HCC.out).mono ?_
    rintro e w10 ⟨rfl, nd, hw⟩
    have hb10 : Below w9.heap.size w9 w10 := by rw [hw]; exact bdrewN (Below.refl _ _) nd
    clear hw HCC
    replace H1 := Lib.hid (H1.out.below hb10 rfl)
    replace H2 := Lib.hid (H2.out.below hb10 rfl)
    replace H3 := Lib.hid (H3.out.below hb10 rfl)
    replace HA := Lib.hid (HA.out.below hb10 rfl)
    replace HD := Lib.hid (HD.out.below hb10 rfl)
    replace HG := Lib.hid (HG.out.below hb10 rfl)
    replace HP := Lib.hid (HP.out.below hb10 rfl)
    replace HB := Lib.hid (HB.out.trans (hb10.mono hz))
    replace hz := HB.out.size
    clear hb10
    clear HG HP HD
    go_wp2_with fail
    have hcc := lives_any w10
    have HCC := Lib.hid hcc
    clear hcc
    refine (HCC.out).mono ?_
    rintro e w11 ⟨rfl, hb11⟩
    clear HCC
    replace H1 := Lib.hid (H1.out.below hb11 rfl)
    replace H2 := Lib.hid (H2.out.below hb11 rfl)
    replace H3 := Lib.hid (H3.out.below hb11 rfl)
    replace HA := Lib.hid (HA.out.below hb11 rfl)
    replace HB := Lib.hid (HB.out.trans (hb11.mono hz))
    replace hz := HB.out.size
    clear hb11
    go_wp2_with fail
    have hcc := mul_b A4 A3 m4 c4 m3 c3 _ l3 w11 HA.out H3.out (by omega)
    rw [vd, ← HZ.out] at hcc
    have HCC := Lib.hid hcc
    clear hcc
    refine (HCC.out).mono ?_
    rintro e w12 ⟨A9, m9, c9, rfl, ha12, hm9, hb12⟩
    clear HCC
    replace H1 := Lib.hid (H1.out.below hb12 rfl)
    replace H2 := Lib.hid (H2.out.below hb12 rfl)
    replace H3 := Lib.hid (H3.out.below hb12 rfl)
    replace HA := Lib.hid (HA.out.below hb12 rfl)
    replace HB := Lib.hid (HB.out.trans (hb12.mono hz))
    replace hz := HB.out.size
    clear hb12
    have HM := Lib.hid ha12
    clear ha12
    go_wp2_with fail
    have hcc := mul_b A1 A3 m1 c1 m3 c3 l1 l3 w12 H1.out H3.out (by omega)
    rw [← HX.out, ← HZ.out] at hcc
    have HCC := Lib.hid hcc
    clear hcc
    refine (HCC.out).mono ?_
    rintro e w13 ⟨A10, m10, c10, rfl, ha13, hm10, hb13⟩
    clear HCC
    replace H1 := Lib.hid (H1.out.below hb13 rfl)
    replace H2 := Lib.hid (H2.out.below hb13 rfl)
    replace H3 := Lib.hid (H3.out.below hb13 rfl)
    replace HA := Lib.hid (HA.out.below hb13 rfl)
    replace HM := Lib.hid (HM.out.below hb13 rfl)
    replace HB := Lib.hid (HB.out.trans (hb13.mono hz))
    replace hz := HB.out.size
    clear hb13
    have HM1 := Lib.hid ha13
    clear ha13
    go_wp2_with fail
    have hcc := mul_b A2 A3 m2 c2 m3 c3 l2 l3 w13 H2.out H3.out (by omega)
    rw [← HY.out, ← HZ.out] at hcc
    have HCC := Lib.hid hcc
    clear hcc
    refine (HCC.out).mono ?_
    rintro e w14 ⟨A11, m11, c11, rfl, ha14, hm11, hb14⟩
    clear HCC
    replace H1 := Lib.hid (H1.out.below hb14 rfl)
    replace H2 := Lib.hid (H2.out.below hb14 rfl)
    replace H3 := Lib.hid (H3.out.below hb14 rfl)
    replace HA := Lib.hid (HA.out.below hb14 rfl)
    replace HM := Lib.hid (HM.out.below hb14 rfl)
    replace HM1 := Lib.hid (HM1.out.below hb14 rfl)
    replace HB := Lib.hid (HB.out.trans (hb14.mono hz))
    replace hz := HB.out.size
    clear hb14
    have HM2 := Lib.hid ha14
    clear ha14
    go_wp2_with fail
    have hcc := add2 A10 A11 m10 c10 m11 c11 _ _ w14 HM1.out HM2.out (by omega) (by omega)
    rw [vd, vd] at hcc
    have HCC := Lib.hid hcc
    clear hcc
    refine (HCC.out).mono ?_
    rintro e w15 ⟨A12, m12, c12, rfl, ha15, hm12, hb15⟩
    clear HCC
    replace H1 := Lib.hid (H1.out.below hb15 rfl)
    replace H2 := Lib.hid (H2.out.below hb15 rfl)
    replace H3 := Lib.hid (H3.out.below hb15 rfl)
    replace HA := Lib.hid (HA.out.below hb15 rfl)
    replace HM := Lib.hid (HM.out.below hb15 rfl)
    replace HM1 := Lib.hid (HM1.out.below hb15 rfl)
    replace HM2 := Lib.hid (HM2.out.below hb15 rfl)
    replace HB := Lib.hid (HB.out.trans (hb15.mono hz))
    replace hz := HB.out.size
    clear hb15
    have HAA := Lib.hid ha15
    clear ha15
    go_wp2_with fail
    have hcc := same_b A9 A12 m9 c9 m12 c12 _ _ w15 HM.out HAA.out HD1.out
    have HCC := Lib.hid hcc
    clear hcc
    refine (HCC.out).mono ?_
    rintro e w16 ⟨rfl, nd, hw⟩
    have hb16 : Below w15.heap.size w15 w16 := by rw [hw]; exact bdrewN (Below.refl _ _) nd
    clear hw HCC
    replace H1 := Lib.hid (H1.out.below hb16 rfl)
    replace H2 := Lib.hid (H2.out.below hb16 rfl)
    replace H3 := Lib.hid (H3.out.below hb16 rfl)
    replace HA := Lib.hid (HA.out.below hb16 rfl)
    replace HM := Lib.hid (HM.out.below hb16 rfl)
    replace HM1 := Lib.hid (HM1.out.below hb16 rfl)
    replace HM2 := Lib.hid (HM2.out.below hb16 rfl)
    replace HAA := Lib.hid (HAA.out.below hb16 rfl)
    replace HB := Lib.hid (HB.out.trans (hb16.mono hz))
    replace hz := HB.out.size
    clear hb16
    clear HM HM1 HM2 HAA
    go_wp2_with fail
    have hcc := mul_b A1 A2 m1 c1 m2 c2 l1 l2 w16 H1.out H2.out (by omega)
    rw [← HX.out, ← HY.out] at hcc
    have HCC := Lib.hid hcc
    clear hcc
    refine (HCC.out).mono ?_
    rintro e w17 ⟨A13, m13, c13, rfl, ha17, hm13, hb17⟩
    clear HCC
    replace H1 := Lib.hid (H1.out.below hb17 rfl)
    replace H2 := Lib.hid (H2.out.below hb17 rfl)
    replace H3 := Lib.hid (H3.out.below hb17 rfl)
    replace HA := Lib.hid (HA.out.below hb17 rfl)
    replace HB := Lib.hid (HB.out.trans (hb17.mono hz))
    replace hz := HB.out.size
    clear hb17
    have HM := Lib.hid ha17
    clear ha17
    go_wp2_with fail
    have hcc := mul_b A2 A1 m2 c2 m1 c1 l2 l1 w17 H2.out H1.out (by omega)
    rw [← HX.out, ← HY.out] at hcc
    have HCC := Lib.hid hcc
    clear hcc
    refine (HCC.out).mono ?_
    rintro e w18 ⟨A14, m14, c14, rfl, ha18, hm14, hb18⟩
    clear HCC
    replace H1 := Lib.hid (H1.out.below hb18 rfl)
    replace H2 := Lib.hid (H2.out.below hb18 rfl)
    replace H3 := Lib.hid (H3.out.below hb18 rfl)
    replace HA := Lib.hid (HA.out.below hb18 rfl)
    replace HM := Lib.hid (HM.out.below hb18 rfl)
    replace HB := Lib.hid (HB.out.trans (hb18.mono hz))
    replace hz := HB.out.size
    clear hb18
    have HM1 := Lib.hid ha18
    clear ha18
    go_wp2_with fail
    have hcc := same_b A13 A14 m13 c13 m14 c14 _ _ w18 HM.out HM1.out HD2.out
    have HCC := Lib.hid hcc
    clear hcc
    refine (HCC.out).mono ?_
    rintro e w19 ⟨rfl, nd, hw⟩
    have hb19 : Below w18.heap.size w18 w19 := by rw [hw]; exact bdrewN (Below.refl _ _) nd
    clear hw HCC
    replace H1 := Lib.hid (H1.out.below hb19 rfl)
    replace H2 := Lib.hid (H2.out.below hb19 rfl)
    replace H3 := Lib.hid (H3.out.below hb19 rfl)
    replace HA := Lib.hid (HA.out.below hb19 rfl)
    replace HM := Lib.hid (HM.out.below hb19 rfl)
    replace HM1 := Lib.hid (HM1.out.below hb19 rfl)
    replace HB := Lib.hid (HB.out.trans (hb19.mono hz))
    replace hz := HB.out.size
    clear hb19
    go_wp2_with fail
    have hcc := cmp_b A1 A2 m1 c1 m2 c2 l1 l2 w19 H1.out H2.out
    rw [← HX.out, ← HY.out, ← HQ1.out] at hcc
    have HCC := Lib.hid hcc
    clear hcc
    refine (HCC.out).mono ?_
    rintro e w20 ⟨rfl, nd, hw⟩
    have hb20 : Below w19.heap.size w19 w20 := by rw [hw]; exact bdrewN (Below.refl _ _) nd
    clear hw HCC
    replace H1 := Lib.hid (H1.out.below hb20 rfl)
    replace H2 := Lib.hid (H2.out.below hb20 rfl)
    replace H3 := Lib.hid (H3.out.below hb20 rfl)
    replace HA := Lib.hid (HA.out.below hb20 rfl)
    replace HM := Lib.hid (HM.out.below hb20 rfl)
    replace HM1 := Lib.hid (HM1.out.below hb20 rfl)
    replace HB := Lib.hid (HB.out.trans (hb20.mono hz))
    replace hz := HB.out.size
    clear hb20
    go_wp2_with fail
    have hcc := cmp_b A2 A1 m2 c2 m1 c1 l2 l1 w20 H2.out H1.out
    rw [← HX.out, ← HY.out, ← HQ2.out] at hcc
    have HCC := Lib.hid hcc
    clear hcc
    refine (HCC.out).mono ?_
    rintro e w21 ⟨rfl, nd, hw⟩
    have hb21 : Below w20.heap.size w20 w21 := by rw [hw]; exact bdrewN (Below.refl _ _) nd
    clear hw HCC
    replace H1 := Lib.hid (H1.out.below hb21 rfl)
    replace H2 := Lib.hid (H2.out.below hb21 rfl)
    replace H3 := Lib.hid (H3.out.below hb21 rfl)
    replace HA := Lib.hid (HA.out.below hb21 rfl)
    replace HM := Lib.hid (HM.out.below hb21 rfl)
    replace HM1 := Lib.hid (HM1.out.below hb21 rfl)
    replace HB := Lib.hid (HB.out.trans (hb21.mono hz))
    replace hz := HB.out.size
    clear hb21
    go_wp2_with fail
    go_ret
    exact ⟨rfl, HB.out⟩

namespace lawCntRings
set_option maxRecDepth 100000 in
theorem lifted (os : Os) (started : os.Started) (H : Type) (enc : TypeId × Value → H) :
    ReturnsInHanded {} Tryd.checked os 6 .any (fun w args => (Rows.cntRingsSpec.pre enc Tryd.prog Tryd.f6 Rows.cntRingsRow.domain false w args ∧ laidMetH Tryd.prog Rows.cntRingsRow.laid w) ∧ sizedMet enc Tryd.prog Tryd.f6 (OpenSpec.ofChange Rows.cntRingsSpec) false w args)
      (Rows.cntRingsSpec.post enc Tryd.prog Tryd.f6 false true false false) := by
  refine returnsInHanded_of_change_and (C := Tryd.checked) (X := fun w _ => laidMetH Tryd.prog Rows.cntRingsRow.laid w) (fun _ _ _ hh h => h.of_heap hh) own started (by kernel_rfl) Tryd.func6
    (ChangeSpec.witness_shaped (enc := enc) (C := Tryd.checked) (os := os) (X := fun w _ => laidMetH Tryd.prog Rows.cntRingsRow.laid w) false (World.laidAll Tryd.prog os Rows.cntRingsRow.laid) #[.slice none 0 0, .slice none 0 0, .slice none 0 0] 8 (World.laidAll_os _ _ _)
      (World.shaped_of_ZipB (by kernel_rfl) (by kernel_rfl)) (by kernel_rfl) (by kernel_rfl) (by kernel_rfl)
      (by rw [MakeChecks.laidMetH_plain _ _ _ (by kernel_rfl)]; exact laidMet_laidAll _ (by kernel_rfl) (by kernel_rfl))) ?_
  intro W base args ds gs before hval0 hW hcnd hsz hL _
  have hval : ∀ (j : Nat) t v, Tryd.f6.params[j]? = some t → args[j]? = some v → Value.okWide Tryd.prog W .any base t v := hval0
  have hW' := hW
  obtain ⟨p, q, hA0, hV, rfl, hfz, hnd⟩ := hW
  have hA : DataW.TrodAll enc Tryd.prog W 0 (fun _ => true) true Tryd.f6.params.toList args.toList ds p := hA0
  rw [Tryd.params6] at hA hval
  obtain ⟨v0, vs0, d0, ds0, p0, q0, hargs, rfl, rfl, h0, r0⟩ := trodAll_cons hA
  obtain ⟨v1, vs1, d1, ds1, p1, q1, rfl, rfl, rfl, h1, r1⟩ := trodAll_cons r0
  obtain ⟨v2, vs2, d2, ds2, p2, q2, rfl, rfl, rfl, h2, r2⟩ := trodAll_cons r1
  obtain ⟨rfl, rfl, rfl⟩ := trodAll_nil r2
  obtain rfl : args = #[v0, v1, v2] := by cases args; simp_all
  obtain ⟨rfl, rfl⟩ := trodVars_none hV
  rw [MakeChecks.laidMetH_plain _ _ _ (by kernel_rfl)] at hL
  have k0 := h0
  have lt0 : ∀ x ∈ p0, x.block < W.heap.size := by obtain ⟨m, hm⟩ := k0; exact DataW.trod_lt m _ _ _ hm
  have k1 := h1
  have lt1 : ∀ x ∈ p1, x.block < W.heap.size := by obtain ⟨m, hm⟩ := k1; exact DataW.trod_lt m _ _ _ hm
  have k2 := h2
  have lt2 : ∀ x ∈ p2, x.block < W.heap.size := by obtain ⟨m, hm⟩ := k2; exact DataW.trod_lt m _ _ _ hm
  obtain ⟨A1, m1, c1, l1, rfl, hs1⟩ := open_nat (hval 0 23 v0 rfl rfl) h0
  obtain ⟨A2, m2, c2, l2, rfl, hs2⟩ := open_nat (hval 1 23 v1 rfl rfl) h1
  obtain ⟨A3, m3, c3, l3, rfl, hs3⟩ := open_nat (hval 2 23 v2 rfl rfl) h2
  clear hA0 hval0
  refine (cntRings_any A1 A2 A3 m1 c1 m2 c2 m3 c3 l1 l2 l3 W hs1 hs2 hs3).mono fun e W' ⟨he, bel⟩ => ?_
  subst he
  exact ⟨_, rfl, _, _, _, [], _, [], hW', trodAll_mk1 (shut_bool Tryd.underlying4 _), (trodAll_cons_mk (Below.trod laidOut (by kernel_rfl) (of_decide_eq_true (by kernel_rfl)) k0 bel lt0) (trodAll_cons_mk (Below.trod laidOut (by kernel_rfl) (of_decide_eq_true (by kernel_rfl)) k1 bel lt1) (trodAll_cons_mk (Below.trod laidOut (by kernel_rfl) (of_decide_eq_true (by kernel_rfl)) k2 bel lt2) trodAll_mk0))), rfl, bel.frame _, fun h => by cases h⟩

theorem said : Rows.CntRingsSaid :=
  OpenClaim.holds_of_wide 6 Tryd.f6 rfl rfl rfl rfl rfl rfl rfl ⟨rfl, rfl, rfl, rfl, rfl⟩ rfl rfl rfl rfl rfl (by kernel_rfl) Tryd.func6 (by kernel_rfl)
    (of_decide_eq_true (by kernel_rfl)) (by unfold Func.isWrapper; first | (rw [if_pos (by decide +kernel)]; kernel_rfl) | (rw [if_neg (by decide +kernel)]; exact ⟨rfl, rfl⟩))
    (fun os started H enc _ => lifted os started H enc)
theorem card : Rows.CntRingsCardSaid :=
  Claim7.holds_tied_plain_at .later [] _ _ _ _ said (fun _ h => by cases h) (by kernel_rfl) (fun _ h => by cases h) cntRings_row_tie rfl ⟨rfl, rfl⟩ (by kernel_rfl) rfl
    (fun f fn hf hfn => by
      obtain rfl : f = 6 := Option.some.inj ((show Tryd.prog.funcNamed Rows.cntRingsRow.func = some 6 by kernel_rfl).symm.trans hf) |>.symm
      obtain rfl : fn = Tryd.f6 := (Option.some.inj (Tryd.func6.symm.trans hfn)).symm
      exact ⟨by kernel_rfl, fun j t ht => by
        rw [Tryd.params6] at ht
        have hm : t ∈ [23, 23, 23] := by simpa using Array.mem_of_getElem? ht
        have hall : ([23, 23, 23].all fun u => !Tryd.prog.wantsStandIn u) = true := by kernel_rfl
        exact (show Tryd.prog.wantsStandIn t = false by simpa using List.all_eq_true.1 hall t hm)⟩)
    (by kernel_rfl)
#print axioms card
end lawCntRings
end Go.Proofs.YtncdacafdfknnaaDoor
