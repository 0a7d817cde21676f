/- The law CntSums: Add, Sub, Cmp and Right agree with the reference. -/
import Derived.Test.YtncdacafdfknnaaDoorCnt5
namespace Go.Proofs.YtncdacafdfknnaaDoor
open Go.ChangeShapes Go.WideShapes Go.ChangeAt Go.RowKit
open Go.ChangeMaps (open_string shut_string)
set_option linter.unusedVariables false

theorem sumV_le : ∀ (ls : List (List Nat)) (b : Nat), (∀ l ∈ ls, val B32 l ≤ b) → sumV ls ≤ ls.length * b
  | [], b, _ => by simp [sumV]
  | l :: r, b, h => by
    have h1 := sumV_le r b fun x hx => h x (List.mem_cons_of_mem _ hx)
    have h2 := h l (List.mem_cons_self ..)
    have e : sumV (l :: r) = val B32 l + sumV r := by simp [sumV]
    rw [e, List.length_cons, Nat.succ_mul]
    omega
theorem sumV_lt {ls : List (List Nat)} (h1 : ∀ l ∈ ls, l.length ≤ 40) (h2 : ls.length ≤ 20) (hd : ∀ l ∈ ls, Dig B32 l) : sumV ls < B32 ^ 41 := by
  have h3 := sumV_le ls (B32 ^ 40) fun l hl => Nat.le_of_lt (lt_gen _ B32 40 _ (by decide) (val_lt (by decide) (hd l hl)) (h1 l hl))
  have h4 : ls.length * B32 ^ 40 ≤ 20 * B32 ^ 40 := Nat.mul_le_mul_right _ h2
  have h5 : B32 ^ 41 = B32 ^ 40 * 4294967296 := Nat.pow_succ _ _
  have h6 : 0 < B32 ^ 40 := Nat.pow_pos (by decide)
  generalize B32 ^ 40 = P at *
  omega
theorem sumV_take_le (ls : List (List Nat)) (k : Nat) : sumV (ls.take k) ≤ sumV ls := by
  have : sumV ls = sumV (ls.take k) + sumV (ls.drop k) := by
    unfold sumV
    rw [← List.sum_append, ← List.map_append, List.take_append_drop]
  omega
theorem add_b (A : Option Addr) (m c0 : Nat) (ls : List (List Nat)) (w : World) (hm : m = ls.length) (hA : NatsAt w A ls) (hd : ∀ l ∈ ls, Dig B32 l) (h1 : ∀ l ∈ ls, l.length ≤ 40) (h2 : ls.length ≤ 20) :
    Calls Tryd.prog 27 #[.slice A m c0] w fun e w' => ∃ A m c, e = .returned (.slice A m c) ∧ BAt w' A m c (digs B32 (sumV ls)) ∧ m ≤ 41 ∧ Below w.heap.size w w' := by
  have h := add_any A c0 ls w (by omega) hA fun l hl => ⟨hd l hl, by have := h1 l hl; omega⟩
  rw [← hm] at h
  refine h.mono fun e w' ⟨A', c', he, hc, hc2, hda, hb⟩ => ?_
  obtain ⟨k1, k2⟩ := bat_mk (N := 41) hda (sumV_lt h1 h2 hd) (by omega) hc hc2
  exact ⟨A', _, _, he, k1, k2, hb⟩
theorem right_b (A1 : Option Addr) (m1 c1 : Nat) (l1 : List Nat) (w : World) (h1 : BAt w A1 m1 c1 l1) :
    Calls Tryd.prog 29 #[.slice A1 m1 c1] w fun e w' => e = .returned (.bool (normB l1)) ∧ w = w' := by
  have := h1.len; have := h1.small
  have h := right_any A1 c1 l1 w (by omega) h1.dat
  rw [← h1.len] at h
  exact h
theorem rright_b (A1 : Option Addr) (m1 c1 : Nat) (l1 : List Nat) (w : World) (h1 : BAt w A1 m1 c1 l1) :
    Calls Tryd.prog 30 #[.slice A1 m1 c1] w fun e w' => e = .returned (.bool (normB l1)) ∧ w = w' := by
  have := h1.len; have := h1.small
  have h := rright_any A1 c1 l1 w (by omega) h1.dat
  rw [← h1.len] at h
  exact h
theorem few0 (A : Option Addr) (m c0 : Nat) (ls : List (List Nat)) (w : World) (hm : m = ls.length) (hl : m ≤ maxLen) (hA : NatsAt w A ls) :
    Calls Tryd.prog 7 #[.slice A m c0] w fun e w' => e = .returned (.bool (fewB ls)) ∧ w = w' := by
  have h := few_any A c0 ls w (by rw [← hm]; exact hl) hA
  rw [← hm] at h
  exact h

set_option maxRecDepth 100000 in
set_option maxHeartbeats 8000000 in
theorem cntSums_any (A0 A1 A2 : Option Addr) (m0 c0 m1 c1 m2 c2 : Nat) (ls : List (List Nat)) (l1 l2 : List Nat) (W : World) (hm0 : m0 = ls.length) (hmx : m0 ≤ maxLen) (h0 : NatsAt W A0 ls) (hd0 : ∀ l ∈ ls, Dig B32 l) (h1 : SAt W A1 m1 c1 l1) (h2 : SAt W A2 m2 c2 l2) :
    Calls Tryd.prog 5 #[.slice A0 m0 c0, .slice A1 m1 c1, .slice A2 m2 c2] W fun e W' => e = .returned (.bool true) ∧ Below W.heap.size W W' := by
  have HF0 := Lib.hid (few0 A0 m0 c0 ls W hm0 hmx h0)
  have HF := Lib.hid (few2 A1 A2 m1 c1 m2 c2 l1 l2 W h1 h2)
  have hb0 := (Below.refl W.heap.size W).alloc (Nat.le_refl _) (.cells #[.slice A1 m1 c1, .slice A2 m2 c2] 23)
  have H0 := Lib.hid (h0.belowB hb0 rfl)
  have H1 := Lib.hid (h1.below hb0 rfl)
  have H2 := Lib.hid (h2.below hb0 rfl)
  have HB := Lib.hid hb0
  have HM0 := Lib.hid hm0
  have HD0 := Lib.hid hd0
  clear h0 h1 h2 hb0 hd0 hm0
  unfold maxLen at hmx
  obtain ⟨f0, hf0⟩ : ∃ f0, f0 = fewB ls := ⟨_, rfl⟩
  rw [← hf0] at HF0
  obtain ⟨fb, hfb⟩ : ∃ fb, fb = fewB [l1, l2] := ⟨_, rfl⟩
  rw [← hfb] at HF
  cases f0
  · clear hf0 hfb
    go_enter Tryd.func5, Tryd.ntmps5
    go_wp2_with fail
    refine (HF0.out).mono ?_
    rintro e w0 ⟨rfl, hw⟩
    rw [← hw]
    clear hw
    go_wp2_with fail
    refine (lives_any W).mono ?_
    rintro e w1 ⟨rfl, hb1⟩
    have HB1 := Lib.hid hb1
    clear hb1
    go_wp2_with fail
    go_ret
    exact ⟨rfl, HB1.out⟩
  have HFF := Lib.hid (fewB_mem hf0.symm)
  clear hf0
  go_enter Tryd.func5, Tryd.ntmps5
  go_wp2_with fail
  refine (HF0.out).mono ?_
  rintro e w0 ⟨rfl, hw⟩
  rw [← hw]
  clear hw
  go_wp2_with fail
  refine (HF.out).mono ?_
  rintro e w0 ⟨rfl, hw⟩
  rw [← hw]
  clear hw HF HF0
  obtain ⟨W1, hW1⟩ : ∃ W1, W1 = W.alloc (.cells #[.slice A1 m1 c1, .slice A2 m2 c2] 23) := ⟨_, rfl⟩
  rw [← hW1]
  rw [← hW1] at H0 H1 H2 HB
  clear hW1
  have hz := HB.out.size
  cases fb
  · clear hfb
    go_wp2_with fail
    have hcc := lives_any W1
    have HCC := Lib.hid hcc
    clear hcc
    refine (HCC.out).mono ?_
    rintro e w2 ⟨rfl, hb2⟩
    clear HCC
    replace HB := Lib.hid (HB.out.trans (hb2.mono hz))
    replace hz := HB.out.size
    clear hb2
    go_wp2_with fail
    go_ret
    exact ⟨rfl, HB.out⟩
  · have hfm := fewB_mem hfb.symm
    have hl1 := hfm.1 l1 (by simp)
    have hl2 := hfm.1 l2 (by simp)
    replace H1 := Lib.hid (H1.out.bat hl1)
    replace H2 := Lib.hid (H2.out.bat hl2)
    have hm1 : m1 ≤ 40 := by rw [H1.out.len]; exact hl1
    have hm2 : m2 ≤ 40 := by rw [H2.out.len]; exact hl2
    clear hfm hl1 hl2 hfb
    obtain ⟨x, hx⟩ : ∃ x, x = val B32 l1 := ⟨_, rfl⟩
    obtain ⟨y, hy⟩ : ∃ y, y = val B32 l2 := ⟨_, rfl⟩
    obtain ⟨q, hq⟩ : ∃ q, q = cmpI x y := ⟨_, rfl⟩
    obtain ⟨nb, hnb⟩ : ∃ nb, nb = normB l1 := ⟨_, rfl⟩
    have HX := Lib.hid hx
    have HY := Lib.hid hy
    have HQ := Lib.hid hq
    have HNB := Lib.hid hnb
    clear hx hy hq hnb
    have HLT := Lib.hid (sumV_lt HFF.out.1 HFF.out.2 HD0.out)
    have hm20 : m0 ≤ 20 := by rw [HM0.out]; exact HFF.out.2
    go_wp2_with fail
    go_loopw [7, 28] (fun ss si wr => ∃ (k : Nat) (A : Option Addr) (m c : Nat), k ≤ m0 ∧ si = .int .i64 k ∧ ss = .slice A m c ∧ NumAt wr A m c (sumV (ls.take k)) ∧ Below W1.heap.size W1 wr) (fun _ i _ => m0 - (intOf i).toNat)
    case atStart => exact ⟨0, none, 0, 0, Nat.zero_le _, rfl, rfl, ⟨rfl, fun _ => rfl, Nat.le_refl _, Nat.zero_le _, .inl rfl⟩, Below.refl _ _⟩
    case round =>
      obtain ⟨k, A, m, c, hk, rfl, rfl, hn, hbel⟩ := hrel
      have HN := Lib.hid hn
      have HBL := Lib.hid hbel
      have hzr := hbel.size
      have hmm : m ≤ 410 := by
        rw [HN.out.len]
        exact digs_len (b := 10) (by decide) 410 _ (Nat.lt_of_le_of_lt (sumV_take_le ls k) (Nat.lt_of_lt_of_le HLT.out (by decide +kernel)))
      clear hn hbel
      by_cases hlt : k < m0
      · obtain ⟨l, hlk⟩ : ∃ l, ls[k]? = some l := ⟨_, List.getElem?_eq_getElem (by have := HM0.out; omega)⟩
        have HLK := Lib.hid hlk
        rcases H0.out.belowB HBL.out rfl with h9 | ⟨g, off, rfl, hg, hcell⟩
        · rw [h9] at hlk; simp at hlk
        obtain ⟨al, cl, hc1, hc2, hc3, hda⟩ := hcell k l hlk
        have hll := HFF.out.1 l (List.mem_of_getElem? hlk)
        obtain ⟨ml, hml⟩ : ∃ ml, ml = l.length := ⟨_, rfl⟩
        rw [← hml] at hc3 hc1 hll
        have HBA := Lib.hid (show BAt wr al ml cl l from ⟨hml, hc1, hc2, by omega, hda, HD0.out l (List.mem_of_getElem? hlk)⟩)
        have hk0 : (0 : Int) ≤ (k : Int) := by omega
        have hk1 : (k : Int) < (m0 : Int) := by omega
        clear hcell hlk hda hc1 hc2 hml
        go_wp2_with fail
        have HCC := Lib.hid (from_b al ml cl l wr HBA.out)
        refine (HCC.out).mono ?_
        rintro e w3 ⟨A3, m3, c3, rfl, ha3, hm3, hb3⟩
        have HN3 := Lib.hid ha3
        have HN2 := Lib.hid (HN.out.below hb3 rfl)
        have HB3 := Lib.hid (HBL.out.trans (hb3.mono hzr))
        have hz3 := HB3.out.size
        clear HCC ha3 hb3
        go_wp2_with fail
        have HCC := Lib.hid (radd_num A A3 m c m3 c3 _ _ w3 HN2.out HN3.out (by omega) (by omega))
        refine (HCC.out).mono ?_
        rintro e w4 ⟨A4, m4, c4, rfl, ha4, hb4⟩
        have HN4 := Lib.hid ha4
        have HB4 := Lib.hid (HB3.out.trans (hb4.mono hz3))
        clear HCC ha4 hb4
        go_wp2_with fail
        go_roundw
        case rel => exact ⟨k + 1, A4, m4, c4, by omega, by go_num, rfl, by rw [sumV_snoc HLK.out]; exact HN4.out, HB4.out⟩
        case measure => first | (simp [intOf]; done) | (simp [intOf]; omega)
      · have hkn : k = m0 := by omega
        subst hkn
        have htk : ls.take k = ls := List.take_of_length_le (by have := HM0.out; omega)
        rw [htk] at HN
        clear htk hlt
        replace H0 := Lib.hid (H0.out.belowB HBL.out rfl)
        replace H1 := Lib.hid (H1.out.below HBL.out rfl)
        replace H2 := Lib.hid (H2.out.below HBL.out rfl)
        replace HB := Lib.hid (HB.out.trans (HBL.out.mono hz))
        replace hz := HB.out.size
        have hk1 : ¬ (k : Int) < (k : Int) := by omega
        rcases Nat.lt_or_ge x y with hxy | hxy
        · have hq : q = -1 := by rw [HQ.out]; exact cmpI_lt hxy
          have HOK := Lib.hid (decide_eq_false (show ¬ y ≤ x by omega))
          have HZ := Lib.hid (show x - y = 0 by omega)
          subst hq
          clear hxy
          go_wp2_with fail
          have hcc := from_b A1 m1 c1 l1 wr H1.out
          rw [← HX.out] at hcc
          have HCC := Lib.hid hcc
          clear hcc
          refine (HCC.out).mono ?_
          rintro e w11 ⟨A3, m3, c3, rfl, ha11, hm3, hb11⟩
          clear HCC
          replace HN := Lib.hid (HN.out.below hb11 rfl)
          replace H0 := Lib.hid (H0.out.belowB hb11 rfl)
          replace H1 := Lib.hid (H1.out.below hb11 rfl)
          replace H2 := Lib.hid (H2.out.below hb11 rfl)
          replace HB := Lib.hid (HB.out.trans (hb11.mono hz))
          replace hz := HB.out.size
          clear hb11
          have HP := Lib.hid ha11
          clear ha11
          go_wp2_with fail
          have hcc := from_b A2 m2 c2 l2 w11 H2.out
          rw [← HY.out] at hcc
          have HCC := Lib.hid hcc
          clear hcc
          refine (HCC.out).mono ?_
          rintro e w12 ⟨A4, m4, c4, rfl, ha12, hm4, hb12⟩
          clear HCC
          replace H0 := Lib.hid (H0.out.belowB hb12 rfl)
          replace HN := Lib.hid (HN.out.below hb12 rfl)
          replace H1 := Lib.hid (H1.out.below hb12 rfl)
          replace H2 := Lib.hid (H2.out.below hb12 rfl)
          replace HP := Lib.hid (HP.out.below hb12 rfl)
          replace HB := Lib.hid (HB.out.trans (hb12.mono hz))
          replace hz := HB.out.size
          clear hb12
          have HR := Lib.hid ha12
          clear ha12
          go_wp2_with fail
          have hcc := rcmp_num A3 A4 m3 c3 m4 c4 x y w12 HP.out HR.out (by omega) (by omega)
          rw [← HQ.out] at hcc
          have HCC := Lib.hid hcc
          clear hcc
          refine (HCC.out).mono ?_
          rintro e w0 ⟨rfl, hw⟩
          rw [← hw]
          clear hw HCC
          go_wp2_with fail
          have hcc := sub_b A1 A2 m1 c1 m2 c2 l1 l2 w12 H1.out H2.out
          rw [← HX.out, ← HY.out, HOK.out, HZ.out] at hcc
          have HCC := Lib.hid hcc
          clear hcc
          refine (HCC.out).mono ?_
          rintro e w13 ⟨A5, m5, c5, rfl, ha13, hm5, hb13⟩
          clear HCC
          replace H0 := Lib.hid (H0.out.belowB hb13 rfl)
          replace HN := Lib.hid (HN.out.below hb13 rfl)
          replace H1 := Lib.hid (H1.out.below hb13 rfl)
          replace H2 := Lib.hid (H2.out.below hb13 rfl)
          replace HP := Lib.hid (HP.out.below hb13 rfl)
          replace HR := Lib.hid (HR.out.below hb13 rfl)
          replace HB := Lib.hid (HB.out.trans (hb13.mono hz))
          replace hz := HB.out.size
          clear hb13
          have HS := Lib.hid ha13
          clear ha13
          go_wp2_with fail
          have hcc := add_b A0 k c0 ls w13 HM0.out H0.out HD0.out HFF.out.1 HFF.out.2
          have HCC := Lib.hid hcc
          clear hcc
          refine (HCC.out).mono ?_
          rintro e w14 ⟨A6, m6, c6, rfl, ha14, hm6, hb14⟩
          clear HCC
          replace H0 := Lib.hid (H0.out.belowB hb14 rfl)
          replace HN := Lib.hid (HN.out.below hb14 rfl)
          replace H1 := Lib.hid (H1.out.below hb14 rfl)
          replace H2 := Lib.hid (H2.out.below hb14 rfl)
          replace HP := Lib.hid (HP.out.below hb14 rfl)
          replace HR := Lib.hid (HR.out.below hb14 rfl)
          replace HS := Lib.hid (HS.out.below hb14 rfl)
          replace HB := Lib.hid (HB.out.trans (hb14.mono hz))
          replace hz := HB.out.size
          clear hb14
          have HA := Lib.hid ha14
          clear ha14
          go_wp2_with fail
          have hcc := is_b A6 A m6 c6 m c _ _ w14 HA.out HN.out rfl
          have HCC := Lib.hid hcc
          clear hcc
          refine (HCC.out).mono ?_
          rintro e w15 ⟨rfl, hb15⟩
          clear HCC
          replace H0 := Lib.hid (H0.out.belowB hb15 rfl)
          replace HN := Lib.hid (HN.out.below hb15 rfl)
          replace H1 := Lib.hid (H1.out.below hb15 rfl)
          replace H2 := Lib.hid (H2.out.below hb15 rfl)
          replace HP := Lib.hid (HP.out.below hb15 rfl)
          replace HR := Lib.hid (HR.out.below hb15 rfl)
          replace HS := Lib.hid (HS.out.below hb15 rfl)
          replace HA := Lib.hid (HA.out.below hb15 rfl)
          replace HB := Lib.hid (HB.out.trans (hb15.mono hz))
          replace hz := HB.out.size
          clear hb15
          clear HA HN
          go_wp2_with fail
          have hcc := cmp_b A1 A2 m1 c1 m2 c2 l1 l2 w15 H1.out H2.out
          rw [← HX.out, ← HY.out, ← HQ.out] at hcc
          have HCC := Lib.hid hcc
          clear hcc
          refine (HCC.out).mono ?_
          rintro e w16 ⟨rfl, nd, hw⟩
          have hb16 : Below w15.heap.size w15 w16 := by rw [hw]; exact bdrewN (Below.refl _ _) nd
          clear hw HCC
          replace H0 := Lib.hid (H0.out.belowB hb16 rfl)
          replace H1 := Lib.hid (H1.out.below hb16 rfl)
          replace H2 := Lib.hid (H2.out.below hb16 rfl)
          replace HP := Lib.hid (HP.out.below hb16 rfl)
          replace HR := Lib.hid (HR.out.below hb16 rfl)
          replace HS := Lib.hid (HS.out.below hb16 rfl)
          replace HB := Lib.hid (HB.out.trans (hb16.mono hz))
          replace hz := HB.out.size
          clear hb16
          go_wp2_with fail
          have hcc := right_b A1 m1 c1 l1 w16 H1.out
          rw [← HNB.out] at hcc
          have HCC := Lib.hid hcc
          clear hcc
          refine (HCC.out).mono ?_
          rintro e w0 ⟨rfl, hw⟩
          rw [← hw]
          clear hw HCC
          go_wp2_with fail
          have hcc := rright_b A1 m1 c1 l1 w16 H1.out
          rw [← HNB.out] at hcc
          have HCC := Lib.hid hcc
          clear hcc
          refine (HCC.out).mono ?_
          rintro e w0 ⟨rfl, hw⟩
          rw [← hw]
          clear hw HCC
          have hm50 : m5 = 0 := by rw [HS.out.len, digs_zero]; rfl
          subst hm50
          go_wp2_with fail
          have hcc := lives_any w16
          have HCC := Lib.hid hcc
          clear hcc
          refine (HCC.out).mono ?_
          rintro e w17 ⟨rfl, hb17⟩
          clear HCC
          replace H0 := Lib.hid (H0.out.belowB hb17 rfl)
          replace H1 := Lib.hid (H1.out.below hb17 rfl)
          replace H2 := Lib.hid (H2.out.below hb17 rfl)
          replace HP := Lib.hid (HP.out.below hb17 rfl)
          replace HR := Lib.hid (HR.out.below hb17 rfl)
          replace HS := Lib.hid (HS.out.below hb17 rfl)
          replace HB := Lib.hid (HB.out.trans (hb17.mono hz))
          replace hz := HB.out.size
          clear hb17
          go_wp2_with fail
          go_ret
          exact ⟨rfl, HB.out⟩
        · have hq0 : (0 : Int) ≤ q := by rw [HQ.out]; unfold cmpI; split <;> (try split) <;> omega
          have HOK := Lib.hid (decide_eq_true (show y ≤ x from hxy))
          have HXY := Lib.hid hxy
          clear hxy
          go_wp2_with fail
          have hcc := from_b A1 m1 c1 l1 wr H1.out
          rw [← HX.out] at hcc
          have HCC := Lib.hid hcc
          clear hcc
          refine (HCC.out).mono ?_
          rintro e w11 ⟨A3, m3, c3, rfl, ha11, hm3, hb11⟩
          clear HCC
          replace HN := Lib.hid (HN.out.below hb11 rfl)
          replace H0 := Lib.hid (H0.out.belowB hb11 rfl)
          replace H1 := Lib.hid (H1.out.below hb11 rfl)
          replace H2 := Lib.hid (H2.out.below hb11 rfl)
          replace HB := Lib.hid (HB.out.trans (hb11.mono hz))
          replace hz := HB.out.size
          clear hb11
          have HP := Lib.hid ha11
          clear ha11
          go_wp2_with fail
          have hcc := from_b A2 m2 c2 l2 w11 H2.out
          rw [← HY.out] at hcc
          have HCC := Lib.hid hcc
          clear hcc
          refine (HCC.out).mono ?_
          rintro e w12 ⟨A4, m4, c4, rfl, ha12, hm4, hb12⟩
          clear HCC
          replace H0 := Lib.hid (H0.out.belowB hb12 rfl)
          replace HN := Lib.hid (HN.out.below hb12 rfl)
          replace H1 := Lib.hid (H1.out.below hb12 rfl)
          replace H2 := Lib.hid (H2.out.below hb12 rfl)
          replace HP := Lib.hid (HP.out.below hb12 rfl)
          replace HB := Lib.hid (HB.out.trans (hb12.mono hz))
          replace hz := HB.out.size
          clear hb12
          have HR := Lib.hid ha12
          clear ha12
          go_wp2_with fail
          have hcc := rcmp_num A3 A4 m3 c3 m4 c4 x y w12 HP.out HR.out (by omega) (by omega)
          rw [← HQ.out] at hcc
          have HCC := Lib.hid hcc
          clear hcc
          refine (HCC.out).mono ?_
          rintro e w0 ⟨rfl, hw⟩
          rw [← hw]
          clear hw HCC
          go_wp2_with fail
          have hcc := sub_b A1 A2 m1 c1 m2 c2 l1 l2 w12 H1.out H2.out
          rw [← HX.out, ← HY.out, HOK.out] at hcc
          have HCC := Lib.hid hcc
          clear hcc
          refine (HCC.out).mono ?_
          rintro e w13 ⟨A5, m5, c5, rfl, ha13, hm5, hb13⟩
          clear HCC
          replace H0 := Lib.hid (H0.out.belowB hb13 rfl)
          replace HN := Lib.hid (HN.out.below hb13 rfl)
          replace H1 := Lib.hid (H1.out.below hb13 rfl)
          replace H2 := Lib.hid (H2.out.below hb13 rfl)
          replace HP := Lib.hid (HP.out.below hb13 rfl)
          replace HR := Lib.hid (HR.out.below hb13 rfl)
          replace HB := Lib.hid (HB.out.trans (hb13.mono hz))
          replace hz := HB.out.size
          clear hb13
          have HS := Lib.hid ha13
          clear ha13
          go_wp2_with fail
          have hcc := add_b A0 k c0 ls w13 HM0.out H0.out HD0.out HFF.out.1 HFF.out.2
          have HCC := Lib.hid hcc
          clear hcc
          refine (HCC.out).mono ?_
          rintro e w14 ⟨A6, m6, c6, rfl, ha14, hm6, hb14⟩
          clear HCC
          replace H0 := Lib.hid (H0.out.belowB hb14 rfl)
          replace HN := Lib.hid (HN.out.below hb14 rfl)
          replace H1 := Lib.hid (H1.out.below hb14 rfl)
          replace H2 := Lib.hid (H2.out.below hb14 rfl)
          replace HP := Lib.hid (HP.out.below hb14 rfl)
          replace HR := Lib.hid (HR.out.below hb14 rfl)
          replace HS := Lib.hid (HS.out.below hb14 rfl)
          replace HB := Lib.hid (HB.out.trans (hb14.mono hz))
          replace hz := HB.out.size
          clear hb14
          have HA := Lib.hid ha14
          clear ha14
          go_wp2_with fail
          have hcc := is_b A6 A m6 c6 m c _ _ w14 HA.out HN.out rfl
          have HCC := Lib.hid hcc
          clear hcc
          refine (HCC.out).mono ?_
          rintro e w15 ⟨rfl, hb15⟩
          clear HCC
          replace H0 := Lib.hid (H0.out.belowB hb15 rfl)
          replace HN := Lib.hid (HN.out.below hb15 rfl)
          replace H1 := Lib.hid (H1.out.below hb15 rfl)
          replace H2 := Lib.hid (H2.out.below hb15 rfl)
          replace HP := Lib.hid (HP.out.below hb15 rfl)
          replace HR := Lib.hid (HR.out.below hb15 rfl)
          replace HS := Lib.hid (HS.out.below hb15 rfl)
          replace HA := Lib.hid (HA.out.below hb15 rfl)
          replace HB := Lib.hid (HB.out.trans (hb15.mono hz))
          replace hz := HB.out.size
          clear hb15
          clear HA HN
          go_wp2_with fail
          have hcc := cmp_b A1 A2 m1 c1 m2 c2 l1 l2 w15 H1.out H2.out
          rw [← HX.out, ← HY.out, ← HQ.out] at hcc
          have HCC := Lib.hid hcc
          clear hcc
          refine (HCC.out).mono ?_
          rintro e w16 ⟨rfl, nd, hw⟩
          have hb16 : Below w15.heap.size w15 w16 := by rw [hw]; exact bdrewN (Below.refl _ _) nd
          clear hw HCC
          replace H0 := Lib.hid (H0.out.belowB hb16 rfl)
          replace H1 := Lib.hid (H1.out.below hb16 rfl)
          replace H2 := Lib.hid (H2.out.below hb16 rfl)
          replace HP := Lib.hid (HP.out.below hb16 rfl)
          replace HR := Lib.hid (HR.out.below hb16 rfl)
          replace HS := Lib.hid (HS.out.below hb16 rfl)
          replace HB := Lib.hid (HB.out.trans (hb16.mono hz))
          replace hz := HB.out.size
          clear hb16
          go_wp2_with fail
          have hcc := right_b A1 m1 c1 l1 w16 H1.out
          rw [← HNB.out] at hcc
          have HCC := Lib.hid hcc
          clear hcc
          refine (HCC.out).mono ?_
          rintro e w0 ⟨rfl, hw⟩
          rw [← hw]
          clear hw HCC
          go_wp2_with fail
          have hcc := rright_b A1 m1 c1 l1 w16 H1.out
          rw [← HNB.out] at hcc
          have HCC := Lib.hid hcc
          clear hcc
          refine (HCC.out).mono ?_
          rintro e w0 ⟨rfl, hw⟩
          rw [← hw]
          clear hw HCC
          go_wp2_with fail
          have hcc := lives_any w16
          have HCC := Lib.hid hcc
          clear hcc
          refine (HCC.out).mono ?_
          rintro e w17 ⟨rfl, hb17⟩
          clear HCC
          replace H0 := Lib.hid (H0.out.belowB hb17 rfl)
          replace H1 := Lib.hid (H1.out.below hb17 rfl)
          replace H2 := Lib.hid (H2.out.below hb17 rfl)
          replace HP := Lib.hid (HP.out.below hb17 rfl)
          replace HR := Lib.hid (HR.out.below hb17 rfl)
          replace HS := Lib.hid (HS.out.below hb17 rfl)
          replace HB := Lib.hid (HB.out.trans (hb17.mono hz))
          replace hz := HB.out.size
          clear hb17
          go_wp2_with fail
          have hcc := rsub_num A3 A4 m3 c3 m4 c4 x y w17 HP.out HR.out (by omega) (by omega) HXY.out
          have HCC := Lib.hid hcc
          clear hcc
          refine (HCC.out).mono ?_
          rintro e w18 ⟨A7, m7, c7, rfl, ha18, hb18⟩
          clear HCC
          replace H0 := Lib.hid (H0.out.belowB hb18 rfl)
          replace H1 := Lib.hid (H1.out.below hb18 rfl)
          replace H2 := Lib.hid (H2.out.below hb18 rfl)
          replace HP := Lib.hid (HP.out.below hb18 rfl)
          replace HR := Lib.hid (HR.out.below hb18 rfl)
          replace HS := Lib.hid (HS.out.below hb18 rfl)
          replace HB := Lib.hid (HB.out.trans (hb18.mono hz))
          replace hz := HB.out.size
          clear hb18
          have HT := Lib.hid ha18
          clear ha18
          go_wp2_with fail
          have hcc := is_b A5 A7 m5 c5 m7 c7 _ _ w18 HS.out HT.out rfl
          have HCC := Lib.hid hcc
          clear hcc
          refine (HCC.out).mono ?_
          rintro e w19 ⟨rfl, hb19⟩
          clear HCC
          replace H0 := Lib.hid (H0.out.belowB hb19 rfl)
          replace H1 := Lib.hid (H1.out.below hb19 rfl)
          replace H2 := Lib.hid (H2.out.below hb19 rfl)
          replace HP := Lib.hid (HP.out.below hb19 rfl)
          replace HR := Lib.hid (HR.out.below hb19 rfl)
          replace HS := Lib.hid (HS.out.below hb19 rfl)
          replace HT := Lib.hid (HT.out.below hb19 rfl)
          replace HB := Lib.hid (HB.out.trans (hb19.mono hz))
          replace hz := HB.out.size
          clear hb19
          go_wp2_with fail
          go_ret
          exact ⟨rfl, HB.out⟩

namespace lawCntSums
set_option maxRecDepth 100000 in
theorem lifted (os : Os) (started : os.Started) (H : Type) (enc : TypeId × Value → H) :
    ReturnsInHanded {} Tryd.checked os 5 .any (fun w args => (Rows.cntSumsSpec.pre enc Tryd.prog Tryd.f5 Rows.cntSumsRow.domain false w args ∧ laidMetH Tryd.prog Rows.cntSumsRow.laid w) ∧ sizedMet enc Tryd.prog Tryd.f5 (OpenSpec.ofChange Rows.cntSumsSpec) false w args)
      (Rows.cntSumsSpec.post enc Tryd.prog Tryd.f5 false true false false) := by
  refine returnsInHanded_of_change_and (C := Tryd.checked) (X := fun w _ => laidMetH Tryd.prog Rows.cntSumsRow.laid w) (fun _ _ _ hh h => h.of_heap hh) own started (by kernel_rfl) Tryd.func5
    (ChangeSpec.witness_shaped (enc := enc) (C := Tryd.checked) (os := os) (X := fun w _ => laidMetH Tryd.prog Rows.cntSumsRow.laid w) false (World.laidAll Tryd.prog os Rows.cntSumsRow.laid) #[.slice none 0 0, .slice none 0 0, .slice none 0 0] 8 (World.laidAll_os _ _ _)
      (World.shaped_of_ZipB (by kernel_rfl) (by kernel_rfl)) (by kernel_rfl) (by kernel_rfl) (by kernel_rfl)
      (by rw [MakeChecks.laidMetH_plain _ _ _ (by kernel_rfl)]; exact laidMet_laidAll _ (by kernel_rfl) (by kernel_rfl))) ?_
  intro W base args ds gs before hval0 hW hcnd hsz hL _
  have hval : ∀ (j : Nat) t v, Tryd.f5.params[j]? = some t → args[j]? = some v → Value.okWide Tryd.prog W .any base t v := hval0
  have hW' := hW
  obtain ⟨p, q, hA0, hV, rfl, hfz, hnd⟩ := hW
  have hA : DataW.TrodAll enc Tryd.prog W 0 (fun _ => true) true Tryd.f5.params.toList args.toList ds p := hA0
  rw [Tryd.params5] at hA hval
  obtain ⟨v0, vs0, d0, ds0, p0, q0, hargs, rfl, rfl, h0, r0⟩ := trodAll_cons hA
  obtain ⟨v1, vs1, d1, ds1, p1, q1, rfl, rfl, rfl, h1, r1⟩ := trodAll_cons r0
  obtain ⟨v2, vs2, d2, ds2, p2, q2, rfl, rfl, rfl, h2, r2⟩ := trodAll_cons r1
  obtain ⟨rfl, rfl, rfl⟩ := trodAll_nil r2
  obtain rfl : args = #[v0, v1, v2] := by cases args; simp_all
  obtain ⟨rfl, rfl⟩ := trodVars_none hV
  rw [MakeChecks.laidMetH_plain _ _ _ (by kernel_rfl)] at hL
  have k0 := h0
  have lt0 : ∀ x ∈ p0, x.block < W.heap.size := by obtain ⟨m, hm⟩ := k0; exact DataW.trod_lt m _ _ _ hm
  have k1 := h1
  have lt1 : ∀ x ∈ p1, x.block < W.heap.size := by obtain ⟨m, hm⟩ := k1; exact DataW.trod_lt m _ _ _ hm
  have k2 := h2
  have lt2 : ∀ x ∈ p2, x.block < W.heap.size := by obtain ⟨m, hm⟩ := k2; exact DataW.trod_lt m _ _ _ hm
  obtain ⟨A0, m0, c0, ls, rfl, hm0, hmx, hn0, hd0⟩ := open_nats (hval 0 53 v0 rfl rfl) h0
  obtain ⟨A2, m2, c2, l2, rfl, hs2⟩ := open_nat (hval 1 23 v1 rfl rfl) h1
  obtain ⟨A3, m3, c3, l3, rfl, hs3⟩ := open_nat (hval 2 23 v2 rfl rfl) h2
  clear hA0 hval0
  refine (cntSums_any A0 A2 A3 m0 c0 m2 c2 m3 c3 ls l2 l3 W hm0 hmx hn0 hd0 hs2 hs3).mono fun e W' ⟨he, bel⟩ => ?_
  subst he
  exact ⟨_, rfl, _, _, _, [], _, [], hW', trodAll_mk1 (shut_bool Tryd.underlying4 _), (trodAll_cons_mk (Below.trod laidOut (by kernel_rfl) (of_decide_eq_true (by kernel_rfl)) k0 bel lt0) (trodAll_cons_mk (Below.trod laidOut (by kernel_rfl) (of_decide_eq_true (by kernel_rfl)) k1 bel lt1) (trodAll_cons_mk (Below.trod laidOut (by kernel_rfl) (of_decide_eq_true (by kernel_rfl)) k2 bel lt2) trodAll_mk0))), rfl, bel.frame _, fun h => by cases h⟩

theorem said : Rows.CntSumsSaid :=
  OpenClaim.holds_of_wide 5 Tryd.f5 rfl rfl rfl rfl rfl rfl rfl ⟨rfl, rfl, rfl, rfl, rfl⟩ rfl rfl rfl rfl rfl (by kernel_rfl) Tryd.func5 (by kernel_rfl)
    (of_decide_eq_true (by kernel_rfl)) (by unfold Func.isWrapper; first | (rw [if_pos (by decide +kernel)]; kernel_rfl) | (rw [if_neg (by decide +kernel)]; exact ⟨rfl, rfl⟩))
    (fun os started H enc _ => lifted os started H enc)
theorem card : Rows.CntSumsCardSaid :=
  Claim7.holds_tied_plain_at .later [] _ _ _ _ said (fun _ h => by cases h) (by kernel_rfl) (fun _ h => by cases h) cntSums_row_tie rfl ⟨rfl, rfl⟩ (by kernel_rfl) rfl
    (fun f fn hf hfn => by
      obtain rfl : f = 5 := Option.some.inj ((show Tryd.prog.funcNamed Rows.cntSumsRow.func = some 5 by kernel_rfl).symm.trans hf) |>.symm
      obtain rfl : fn = Tryd.f5 := (Option.some.inj (Tryd.func5.symm.trans hfn)).symm
      exact ⟨by kernel_rfl, fun j t ht => by
        rw [Tryd.params5] at ht
        have hm : t ∈ [53, 23, 23] := by simpa using Array.mem_of_getElem? ht
        have hall : ([53, 23, 23].all fun u => !Tryd.prog.wantsStandIn u) = true := by kernel_rfl
        exact (show Tryd.prog.wantsStandIn t = false by simpa using List.all_eq_true.1 hall t hm)⟩)
    (by kernel_rfl)
#print axioms card
end lawCntSums
end Go.Proofs.YtncdacafdfknnaaDoor
