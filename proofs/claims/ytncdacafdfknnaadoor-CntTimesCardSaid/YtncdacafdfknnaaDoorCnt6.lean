/- The law CntTimes: Mul, Shift and Half agree with the reference. -/
import Derived.Test.YtncdacafdfknnaaDoorCnt5
namespace Go.Proofs.YtncdacafdfknnaaDoor
open Go.ChangeShapes Go.WideShapes Go.ChangeAt Go.RowKit
open Go.ChangeMaps (open_string shut_string)
set_option linter.unusedVariables false

set_option maxRecDepth 100000 in
set_option maxHeartbeats 8000000 in
theorem cntTimes_any (A1 A2 : Option Addr) (m1 c1 m2 c2 : Nat) (l1 l2 : List Nat) (k : Int) (W : World) (h1 : SAt W A1 m1 c1 l1) (h2 : SAt W A2 m2 c2 l2) :
    Calls Tryd.prog 4 #[.slice A1 m1 c1, .slice A2 m2 c2, .int .i64 k] W fun e W' => e = .returned (.bool true) ∧ Below W.heap.size W W' := by
  have HF := Lib.hid (few2 A1 A2 m1 c1 m2 c2 l1 l2 W h1 h2)
  have hb0 := (Below.refl W.heap.size W).alloc (Nat.le_refl _) (.cells #[.slice A1 m1 c1, .slice A2 m2 c2] 23)
  have H1 := Lib.hid (h1.below hb0 rfl)
  have H2 := Lib.hid (h2.below hb0 rfl)
  have HB := Lib.hid hb0
  clear h1 h2 hb0
  obtain ⟨fb, hfb⟩ : ∃ fb, fb = fewB [l1, l2] := ⟨_, rfl⟩
  rw [← hfb] at HF
  go_enter Tryd.func4, Tryd.ntmps4
  go_wp2_with fail
  refine (HF.out).mono ?_
  rintro e w0 ⟨rfl, hw⟩
  rw [← hw]
  clear hw HF
  obtain ⟨W1, hW1⟩ : ∃ W1, W1 = W.alloc (.cells #[.slice A1 m1 c1, .slice A2 m2 c2] 23) := ⟨_, rfl⟩
  rw [← hW1]
  rw [← hW1] at H1 H2 HB
  clear hW1
  have hz := HB.out.size
  cases fb
  · clear hfb
    go_wp2_with fail
    have hcc := lives_any W1
    have HCC := Lib.hid hcc
    clear hcc
    refine (HCC.out).mono ?_
    rintro e w2 ⟨rfl, hb2⟩
    clear HCC
    replace HB := Lib.hid (HB.out.trans (hb2.mono hz))
    replace hz := HB.out.size
    clear hb2
    go_wp2_with fail
    go_ret
    exact ⟨rfl, HB.out⟩
  · have hfm := fewB_mem hfb.symm
    have hl1 := hfm.1 l1 (by simp)
    have hl2 := hfm.1 l2 (by simp)
    replace H1 := Lib.hid (H1.out.bat hl1)
    replace H2 := Lib.hid (H2.out.bat hl2)
    have hm1 : m1 ≤ 40 := by rw [H1.out.len]; exact hl1
    have hm2 : m2 ≤ 40 := by rw [H2.out.len]; exact hl2
    clear hfm hl1 hl2 hfb
    obtain ⟨x, hx⟩ : ∃ x, x = val B32 l1 := ⟨_, rfl⟩
    obtain ⟨y, hy⟩ : ∃ y, y = val B32 l2 := ⟨_, rfl⟩
    have HX := Lib.hid hx
    have HY := Lib.hid hy
    obtain ⟨ob, hob⟩ : ∃ ob, ob = decide (x % 2 = 1) := ⟨_, rfl⟩
    have HOB := Lib.hid hob
    clear hx hy hob
    go_wp2_with fail
    have hcc := from_b A1 m1 c1 l1 W1 H1.out
    rw [← HX.out] at hcc
    have HCC := Lib.hid hcc
    clear hcc
    refine (HCC.out).mono ?_
    rintro e w2 ⟨A3, m3, c3, rfl, ha2, hm3, hb2⟩
    clear HCC
    replace H1 := Lib.hid (H1.out.below hb2 rfl)
    replace H2 := Lib.hid (H2.out.below hb2 rfl)
    replace HB := Lib.hid (HB.out.trans (hb2.mono hz))
    replace hz := HB.out.size
    clear hb2
    have HP := Lib.hid ha2
    clear ha2
    go_wp2_with fail
    have hcc := from_b A2 m2 c2 l2 w2 H2.out
    rw [← HY.out] at hcc
    have HCC := Lib.hid hcc
    clear hcc
    refine (HCC.out).mono ?_
    rintro e w3 ⟨A4, m4, c4, rfl, ha3, hm4, hb3⟩
    clear HCC
    replace H1 := Lib.hid (H1.out.below hb3 rfl)
    replace H2 := Lib.hid (H2.out.below hb3 rfl)
    replace HP := Lib.hid (HP.out.below hb3 rfl)
    replace HB := Lib.hid (HB.out.trans (hb3.mono hz))
    replace hz := HB.out.size
    clear hb3
    have HQ := Lib.hid ha3
    clear ha3
    go_wp2_with fail
    have hcc := half_b A1 m1 c1 l1 w3 H1.out
    rw [← HX.out, ← HOB.out] at hcc
    have HCC := Lib.hid hcc
    clear hcc
    refine (HCC.out).mono ?_
    rintro e w4 ⟨A5, m5, c5, rfl, ha4, hm5, hb4⟩
    clear HCC
    replace H1 := Lib.hid (H1.out.below hb4 rfl)
    replace H2 := Lib.hid (H2.out.below hb4 rfl)
    replace HP := Lib.hid (HP.out.below hb4 rfl)
    replace HQ := Lib.hid (HQ.out.below hb4 rfl)
    replace HB := Lib.hid (HB.out.trans (hb4.mono hz))
    replace hz := HB.out.size
    clear hb4
    have HH := Lib.hid ha4
    clear ha4
    go_wp2_with fail
    have hcc := rhalf_num A3 m3 c3 x w4 HP.out (by omega)
    rw [← HOB.out] at hcc
    have HCC := Lib.hid hcc
    clear hcc
    refine (HCC.out).mono ?_
    rintro e w5 ⟨A6, m6, c6, rfl, ha5, hb5⟩
    clear HCC
    replace H1 := Lib.hid (H1.out.below hb5 rfl)
    replace H2 := Lib.hid (H2.out.below hb5 rfl)
    replace HP := Lib.hid (HP.out.below hb5 rfl)
    replace HQ := Lib.hid (HQ.out.below hb5 rfl)
    replace HH := Lib.hid (HH.out.below hb5 rfl)
    replace HB := Lib.hid (HB.out.trans (hb5.mono hz))
    replace hz := HB.out.size
    clear hb5
    have HG := Lib.hid ha5
    clear ha5
    go_wp2_with fail
    have hcc := lives_any w5
    have HCC := Lib.hid hcc
    clear hcc
    refine (HCC.out).mono ?_
    rintro e w6 ⟨rfl, hb6⟩
    clear HCC
    replace H1 := Lib.hid (H1.out.below hb6 rfl)
    replace H2 := Lib.hid (H2.out.below hb6 rfl)
    replace HP := Lib.hid (HP.out.below hb6 rfl)
    replace HQ := Lib.hid (HQ.out.below hb6 rfl)
    replace HH := Lib.hid (HH.out.below hb6 rfl)
    replace HG := Lib.hid (HG.out.below hb6 rfl)
    replace HB := Lib.hid (HB.out.trans (hb6.mono hz))
    replace hz := HB.out.size
    clear hb6
    go_wp2_with fail
    have hcc := mul_b A1 A2 m1 c1 m2 c2 l1 l2 w6 H1.out H2.out (by omega)
    rw [← HX.out, ← HY.out] at hcc
    have HCC := Lib.hid hcc
    clear hcc
    refine (HCC.out).mono ?_
    rintro e w7 ⟨A7, m7, c7, rfl, ha7, hm7, hb7⟩
    clear HCC
    replace H1 := Lib.hid (H1.out.below hb7 rfl)
    replace H2 := Lib.hid (H2.out.below hb7 rfl)
    replace HP := Lib.hid (HP.out.below hb7 rfl)
    replace HQ := Lib.hid (HQ.out.below hb7 rfl)
    replace HH := Lib.hid (HH.out.below hb7 rfl)
    replace HG := Lib.hid (HG.out.below hb7 rfl)
    replace HB := Lib.hid (HB.out.trans (hb7.mono hz))
    replace hz := HB.out.size
    clear hb7
    have HM := Lib.hid ha7
    clear ha7
    go_wp2_with fail
    have hcc := rmul_num A3 A4 m3 c3 m4 c4 x y w7 HP.out HQ.out (by omega) (by omega)
    have HCC := Lib.hid hcc
    clear hcc
    refine (HCC.out).mono ?_
    rintro e w8 ⟨A8, m8, c8, rfl, ha8, hb8⟩
    clear HCC
    replace H1 := Lib.hid (H1.out.below hb8 rfl)
    replace H2 := Lib.hid (H2.out.below hb8 rfl)
    replace HP := Lib.hid (HP.out.below hb8 rfl)
    replace HQ := Lib.hid (HQ.out.below hb8 rfl)
    replace HH := Lib.hid (HH.out.below hb8 rfl)
    replace HG := Lib.hid (HG.out.below hb8 rfl)
    replace HM := Lib.hid (HM.out.below hb8 rfl)
    replace HB := Lib.hid (HB.out.trans (hb8.mono hz))
    replace hz := HB.out.size
    clear hb8
    have HN := Lib.hid ha8
    clear ha8
    go_wp2_with fail
    have hcc := is_b A7 A8 m7 c7 m8 c8 (x * y) (x * y) w8 HM.out HN.out rfl
    have HCC := Lib.hid hcc
    clear hcc
    refine (HCC.out).mono ?_
    rintro e w9 ⟨rfl, hb9⟩
    clear HCC
    replace H1 := Lib.hid (H1.out.below hb9 rfl)
    replace H2 := Lib.hid (H2.out.below hb9 rfl)
    replace HP := Lib.hid (HP.out.below hb9 rfl)
    replace HQ := Lib.hid (HQ.out.below hb9 rfl)
    replace HH := Lib.hid (HH.out.below hb9 rfl)
    replace HG := Lib.hid (HG.out.below hb9 rfl)
    replace HM := Lib.hid (HM.out.below hb9 rfl)
    replace HN := Lib.hid (HN.out.below hb9 rfl)
    replace HB := Lib.hid (HB.out.trans (hb9.mono hz))
    replace hz := HB.out.size
    clear hb9
    clear HM HN
    go_wp2_with fail
    have hcc := shift_b A1 m1 c1 l1 k w9 H1.out (by omega)
    rw [← HX.out] at hcc
    have HCC := Lib.hid hcc
    clear hcc
    refine (HCC.out).mono ?_
    rintro e w10 ⟨A9, m9, c9, rfl, ha10, hm9, hb10⟩
    clear HCC
    replace H1 := Lib.hid (H1.out.below hb10 rfl)
    replace H2 := Lib.hid (H2.out.below hb10 rfl)
    replace HP := Lib.hid (HP.out.below hb10 rfl)
    replace HQ := Lib.hid (HQ.out.below hb10 rfl)
    replace HH := Lib.hid (HH.out.below hb10 rfl)
    replace HG := Lib.hid (HG.out.below hb10 rfl)
    replace HB := Lib.hid (HB.out.trans (hb10.mono hz))
    replace hz := HB.out.size
    clear hb10
    have HS := Lib.hid ha10
    clear ha10
    go_wp2_with fail
    have hcc := rshift_num A3 m3 c3 x k w10 HP.out (by omega)
    have HCC := Lib.hid hcc
    clear hcc
    refine (HCC.out).mono ?_
    rintro e w11 ⟨A10, m10, c10, rfl, ha11, hb11⟩
    clear HCC
    replace H1 := Lib.hid (H1.out.below hb11 rfl)
    replace H2 := Lib.hid (H2.out.below hb11 rfl)
    replace HP := Lib.hid (HP.out.below hb11 rfl)
    replace HQ := Lib.hid (HQ.out.below hb11 rfl)
    replace HH := Lib.hid (HH.out.below hb11 rfl)
    replace HG := Lib.hid (HG.out.below hb11 rfl)
    replace HS := Lib.hid (HS.out.below hb11 rfl)
    replace HB := Lib.hid (HB.out.trans (hb11.mono hz))
    replace hz := HB.out.size
    clear hb11
    have HT := Lib.hid ha11
    clear ha11
    go_wp2_with fail
    have hcc := is_b A9 A10 m9 c9 m10 c10 _ _ w11 HS.out HT.out rfl
    have HCC := Lib.hid hcc
    clear hcc
    refine (HCC.out).mono ?_
    rintro e w12 ⟨rfl, hb12⟩
    clear HCC
    replace H1 := Lib.hid (H1.out.below hb12 rfl)
    replace H2 := Lib.hid (H2.out.below hb12 rfl)
    replace HP := Lib.hid (HP.out.below hb12 rfl)
    replace HQ := Lib.hid (HQ.out.below hb12 rfl)
    replace HH := Lib.hid (HH.out.below hb12 rfl)
    replace HG := Lib.hid (HG.out.below hb12 rfl)
    replace HS := Lib.hid (HS.out.below hb12 rfl)
    replace HT := Lib.hid (HT.out.below hb12 rfl)
    replace HB := Lib.hid (HB.out.trans (hb12.mono hz))
    replace hz := HB.out.size
    clear hb12
    go_wp2_with fail
    have hcc := is_b A5 A6 m5 c5 m6 c6 _ _ w12 HH.out HG.out rfl
    have HCC := Lib.hid hcc
    clear hcc
    refine (HCC.out).mono ?_
    rintro e w13 ⟨rfl, hb13⟩
    clear HCC
    replace H1 := Lib.hid (H1.out.below hb13 rfl)
    replace H2 := Lib.hid (H2.out.below hb13 rfl)
    replace HP := Lib.hid (HP.out.below hb13 rfl)
    replace HQ := Lib.hid (HQ.out.below hb13 rfl)
    replace HH := Lib.hid (HH.out.below hb13 rfl)
    replace HG := Lib.hid (HG.out.below hb13 rfl)
    replace HS := Lib.hid (HS.out.below hb13 rfl)
    replace HT := Lib.hid (HT.out.below hb13 rfl)
    replace HB := Lib.hid (HB.out.trans (hb13.mono hz))
    replace hz := HB.out.size
    clear hb13
    go_wp2_with fail
    go_ret
    exact ⟨rfl, HB.out⟩

namespace lawCntTimes
set_option maxRecDepth 100000 in
theorem lifted (os : Os) (started : os.Started) (H : Type) (enc : TypeId × Value → H) :
    ReturnsInHanded {} Tryd.checked os 4 .any (fun w args => (Rows.cntTimesSpec.pre enc Tryd.prog Tryd.f4 Rows.cntTimesRow.domain false w args ∧ laidMetH Tryd.prog Rows.cntTimesRow.laid w) ∧ sizedMet enc Tryd.prog Tryd.f4 (OpenSpec.ofChange Rows.cntTimesSpec) false w args)
      (Rows.cntTimesSpec.post enc Tryd.prog Tryd.f4 false true false false) := by
  refine returnsInHanded_of_change_and (C := Tryd.checked) (X := fun w _ => laidMetH Tryd.prog Rows.cntTimesRow.laid w) (fun _ _ _ hh h => h.of_heap hh) own started (by kernel_rfl) Tryd.func4
    (ChangeSpec.witness_shaped (enc := enc) (C := Tryd.checked) (os := os) (X := fun w _ => laidMetH Tryd.prog Rows.cntTimesRow.laid w) false (World.laidAll Tryd.prog os Rows.cntTimesRow.laid) #[.slice none 0 0, .slice none 0 0, .int .i64 0] 8 (World.laidAll_os _ _ _)
      (World.shaped_of_ZipB (by kernel_rfl) (by kernel_rfl)) (by kernel_rfl) (by kernel_rfl) (by kernel_rfl)
      (by rw [MakeChecks.laidMetH_plain _ _ _ (by kernel_rfl)]; exact laidMet_laidAll _ (by kernel_rfl) (by kernel_rfl))) ?_
  intro W base args ds gs before hval0 hW hcnd hsz hL _
  have hval : ∀ (j : Nat) t v, Tryd.f4.params[j]? = some t → args[j]? = some v → Value.okWide Tryd.prog W .any base t v := hval0
  have hW' := hW
  obtain ⟨p, q, hA0, hV, rfl, hfz, hnd⟩ := hW
  have hA : DataW.TrodAll enc Tryd.prog W 0 (fun _ => true) true Tryd.f4.params.toList args.toList ds p := hA0
  rw [Tryd.params4] at hA hval
  obtain ⟨v0, vs0, d0, ds0, p0, q0, hargs, rfl, rfl, h0, r0⟩ := trodAll_cons hA
  obtain ⟨v1, vs1, d1, ds1, p1, q1, rfl, rfl, rfl, h1, r1⟩ := trodAll_cons r0
  obtain ⟨v2, vs2, d2, ds2, p2, q2, rfl, rfl, rfl, h2, r2⟩ := trodAll_cons r1
  obtain ⟨rfl, rfl, rfl⟩ := trodAll_nil r2
  obtain rfl : args = #[v0, v1, v2] := by cases args; simp_all
  obtain ⟨rfl, rfl⟩ := trodVars_none hV
  rw [MakeChecks.laidMetH_plain _ _ _ (by kernel_rfl)] at hL
  have k0 := h0
  have lt0 : ∀ x ∈ p0, x.block < W.heap.size := by obtain ⟨m, hm⟩ := k0; exact DataW.trod_lt m _ _ _ hm
  have k1 := h1
  have lt1 : ∀ x ∈ p1, x.block < W.heap.size := by obtain ⟨m, hm⟩ := k1; exact DataW.trod_lt m _ _ _ hm
  have k2 := h2
  have lt2 : ∀ x ∈ p2, x.block < W.heap.size := by obtain ⟨m, hm⟩ := k2; exact DataW.trod_lt m _ _ _ hm
  obtain ⟨A1, m1, c1, l1, rfl, hs1⟩ := open_nat (hval 0 23 v0 rfl rfl) h0
  obtain ⟨A2, m2, c2, l2, rfl, hs2⟩ := open_nat (hval 1 23 v1 rfl rfl) h1
  obtain ⟨n, rfl, rfl, rfl, wn⟩ := open_int Tryd.underlying3 (hval 2 3 v2 rfl rfl) h2
  clear hA0 hval0
  refine (cntTimes_any A1 A2 m1 c1 m2 c2 l1 l2 n W hs1 hs2).mono fun e W' ⟨he, bel⟩ => ?_
  subst he
  exact ⟨_, rfl, _, _, _, [], _, [], hW', trodAll_mk1 (shut_bool Tryd.underlying4 _), (trodAll_cons_mk (Below.trod laidOut (by kernel_rfl) (of_decide_eq_true (by kernel_rfl)) k0 bel lt0) (trodAll_cons_mk (Below.trod laidOut (by kernel_rfl) (of_decide_eq_true (by kernel_rfl)) k1 bel lt1) (trodAll_cons_mk (Below.trod laidOut (by kernel_rfl) (of_decide_eq_true (by kernel_rfl)) k2 bel lt2) trodAll_mk0))), rfl, bel.frame _, fun h => by cases h⟩

theorem said : Rows.CntTimesSaid :=
  OpenClaim.holds_of_wide 4 Tryd.f4 rfl rfl rfl rfl rfl rfl rfl ⟨rfl, rfl, rfl, rfl, rfl⟩ rfl rfl rfl rfl rfl (by kernel_rfl) Tryd.func4 (by kernel_rfl)
    (of_decide_eq_true (by kernel_rfl)) (by unfold Func.isWrapper; first | (rw [if_pos (by decide +kernel)]; kernel_rfl) | (rw [if_neg (by decide +kernel)]; exact ⟨rfl, rfl⟩))
    (fun os started H enc _ => lifted os started H enc)
theorem card : Rows.CntTimesCardSaid :=
  Claim7.holds_tied_plain_at .later [] _ _ _ _ said (fun _ h => by cases h) (by kernel_rfl) (fun _ h => by cases h) cntTimes_row_tie rfl ⟨rfl, rfl⟩ (by kernel_rfl) rfl
    (fun f fn hf hfn => by
      obtain rfl : f = 4 := Option.some.inj ((show Tryd.prog.funcNamed Rows.cntTimesRow.func = some 4 by kernel_rfl).symm.trans hf) |>.symm
      obtain rfl : fn = Tryd.f4 := (Option.some.inj (Tryd.func4.symm.trans hfn)).symm
      exact ⟨by kernel_rfl, fun j t ht => by
        rw [Tryd.params4] at ht
        have hm : t ∈ [23, 23, 3] := by simpa using Array.mem_of_getElem? ht
        have hall : ([23, 23, 3].all fun u => !Tryd.prog.wantsStandIn u) = true := by kernel_rfl
        exact (show Tryd.prog.wantsStandIn t = false by simpa using List.all_eq_true.1 hall t hm)⟩)
    (by kernel_rfl)
#print axioms card
end lawCntTimes
end Go.Proofs.YtncdacafdfknnaaDoor
