/- The law TreetextApart: different states have different strings, for any variables and states. -/
import Derived.Test.YtcjblbpkjegmiaaDoorTtrV
import Derived.Test.YtcjblbpkjegmiaaDoorTtrQ
import Derived.Test.YtcjblbpkjegmiaaDoorTtrW
namespace Go.Proofs.YtcjblbpkjegmiaaDoor
open Go.ChangeShapes Go.WideShapes Go.ChangeAt Go.RowKit
open Go.ChangeMaps (open_string shut_string)
set_option linter.unusedVariables false

theorem take_eq_snoc {a b : List Int} {k : Nat} {x y : Int} (hx : a[k]? = some x) (hy : b[k]? = some y) : decide (a.take (k + 1) = b.take (k + 1)) = (decide (a.take k = b.take k) && decide (x = y)) := by
  obtain ⟨h1, rfl⟩ := List.getElem?_eq_some_iff.1 hx
  obtain ⟨h2, rfl⟩ := List.getElem?_eq_some_iff.1 hy
  rw [List.take_succ_eq_append_getElem h1, List.take_succ_eq_append_getElem h2, Bool.eq_iff_iff]
  simp only [decide_eq_true_eq, Bool.and_eq_true]
  constructor
  · intro h
    have hl : (a.take k).length = (b.take k).length := by simp; omega
    have := List.append_inj h hl
    exact ⟨this.1, by simpa using this.2⟩
  · rintro ⟨h3, h4⟩
    rw [h3, h4]

set_option maxRecDepth 100000 in
set_option maxHeartbeats 8000000 in
theorem treetextApart_any (vs : List Vr) (a b : List Int) (Av Aa Ab : Option Addr) (cv ca cb : Nat) (w : World) (hV : VrsV w Av cv vs) (hA : IntsV w Aa ca a) (hB : IntsV w Ab cb b) (hT : WordsT w) :
    Calls Tryd.prog 6 #[.slice Av vs.length cv, .slice Aa a.length ca, .slice Ab b.length cb] w fun e w' => e = .returned (.bool true) ∧ Below w.heap.size w w' := by
  have HSMALL := Lib.hid (small_any vs Av cv w hV)
  obtain ⟨n, hn⟩ : ∃ n, n = vs.length := ⟨_, rfl⟩
  obtain ⟨na, hna⟩ : ∃ na, na = a.length := ⟨_, rfl⟩
  obtain ⟨nb, hnb⟩ : ∃ nb, nb = b.length := ⟨_, rfl⟩
  have hcv := hV.cap
  have hcvm := hV.capm
  have hca := hA.cap
  have hcam := hA.capm
  have hcb := hB.cap
  have hcbm := hB.capm
  unfold maxLen at hcvm hcam hcbm
  rw [← hn] at HSMALL hcv ⊢
  rw [← hna] at hca ⊢
  rw [← hnb] at hcb ⊢
  have HV := Lib.hid hV
  have HA := Lib.hid hA
  have HBB := Lib.hid hB
  have HT := Lib.hid hT
  have HN := Lib.hid hn
  have HNA := Lib.hid hna
  have HNB := Lib.hid hnb
  have HLV := Lib.hid (lives_any w hT)
  clear hV hA hB hT hn hna hnb
  go_enter Tryd.func6, Tryd.ntmps6
  go_wp2_with fail
  refine (HSMALL.out).mono ?_
  rintro e w' ⟨sb, rfl, hsb, hw⟩
  rw [← hw]
  clear hw
  cases sb with
  | false =>
    clear hsb
    go_wp2_with fail
    refine (HLV.out).mono ?_
    rintro e w1 ⟨rfl, hb1⟩
    have HB1 := Lib.hid hb1
    clear hb1
    go_wp2_with fail
    go_ret
    exact ⟨rfl, HB1.out⟩
  | true =>
    have HSM := Lib.hid (hsb rfl)
    clear hsb
    by_cases h1 : na = n
    · have h1' : ((na : Int) != (n : Int)) = false := by simp; omega
      by_cases h2 : nb = n
      · have h2' : ((nb : Int) != (n : Int)) = false := by simp; omega
        have H1 : Hid (a.length = vs.length) := by show _ = _; rw [← HNA.out, ← HN.out]; exact h1
        have H2 : Hid (b.length = vs.length) := by show _ = _; rw [← HNB.out, ← HN.out]; exact h2
        have hnaI : (na : Int) = (n : Int) := by omega
        have hnbI : (nb : Int) = (n : Int) := by omega
        have hna2 : na ≤ n ∧ n ≤ na := by omega
        have hnb2 : nb ≤ n ∧ n ≤ nb := by omega
        clear h1 h2 hnaI hnbI
        go_wp2_with fail
        go_loopw [7, 8] (fun sal si wr => ∃ (k : Nat) (al : Bool), k ≤ n ∧ si = .int .i64 k ∧ Value.bool al = sal ∧ al = decide (a.take k = b.take k) ∧ (∀ v ∈ vs.take k, isName v.name.data.toList = true) ∧ Below w.heap.size w wr) (fun _ i _ => n - (intOf i).toNat)
        case atStart => exact ⟨0, true, Nat.zero_le _, rfl, rfl, by simp, fun v hv => by simp at hv, Below.refl _ _⟩
        case round =>
          obtain ⟨k, al, hk, rfl, rfl, hal, hnm, hbel⟩ := hrel
          have HAL := Lib.hid hal
          have HNM := Lib.hid hnm
          have HBL := Lib.hid hbel
          have hszr := hbel.size
          clear hal hnm
          by_cases hlt : k < n
          · obtain ⟨v, hv⟩ : ∃ v, vs[k]? = some v := ⟨_, List.getElem?_eq_getElem (by have := HN.out; omega)⟩
            obtain ⟨x, hx⟩ : ∃ x, a[k]? = some x := ⟨_, List.getElem?_eq_getElem (by have := HNA.out; omega)⟩
            obtain ⟨y, hy⟩ : ∃ y, b[k]? = some y := ⟨_, List.getElem?_eq_getElem (by have := HNB.out; omega)⟩
            rcases HV.out.row with h9 | ⟨g, o, rfl, hg, hvr⟩
            · rw [h9] at hv; simp at hv
            rcases HA.out.row with h9 | ⟨ga, oa, rfl, hga, har⟩
            · rw [h9] at hx; simp at hx
            rcases HBB.out.row with h9 | ⟨gb, ob, rfl, hgb, hbr⟩
            · rw [h9] at hy; simp at hy
            obtain ⟨q0, q1, q2, q3⟩ := hvr k v hv
            have x0 := har k x hx
            have y0 := hbr k y hy
            rw [← hbel.cell (p := ⟨g, _, none⟩) hg] at q0
            have e1 : o + 4 * k = o + k * 4 := by omega
            rw [e1] at q0
            have hvn := HSM.out.name v (List.mem_of_getElem? hv)
            have HTE := Lib.hid (take_eq_snoc hx hy)
            have HTK : Hid (vs.take (k + 1) = vs.take k ++ [v]) := by
              obtain ⟨hj, hj2⟩ := List.getElem?_eq_some_iff.1 hv
              show _ = _
              rw [List.take_succ_eq_append_getElem hj, hj2]
            have his := ris_any v.name wr (by omega)
            obtain ⟨nm, hnm⟩ : ∃ nm, nm = isName (bs v.name) := ⟨_, rfl⟩
            rw [← hnm] at his
            have HIS := Lib.hid his
            have HNM1 := Lib.hid hnm
            have hk0 : (0 : Int) ≤ (k : Int) := by omega
            have hk1 : (k : Int) < (n : Int) := by omega
            have hka : (k : Int) < (na : Int) := by omega
            have hkb : (k : Int) < (nb : Int) := by omega
            clear hv hx hy hvr har hbr e1 his hnm hbel q1 q2 q3
            go_wp2_with fail
            refine (HIS.out).mono ?_
            rintro e w2 ⟨rfl, hb2⟩
            have hb3 := HBL.out.trans (hb2.mono hszr)
            have HB3 := Lib.hid hb3
            rw [← hb3.cell (p := ⟨ga, _, none⟩) hga] at x0
            rw [← hb3.cell (p := ⟨gb, _, none⟩) hgb] at y0
            have hs3 := hb3.size
            clear hb2 hb3 q0
            cases nm with
            | false =>
              have hlv := lives_any w2 (HT.out.below HB3.out)
              have HLV2 := Lib.hid hlv
              clear hlv
              go_wp2_with fail
              refine (HLV2.out).mono ?_
              rintro e w4 ⟨rfl, hb4⟩
              have HB4 := Lib.hid (HB3.out.trans (hb4.mono hs3))
              clear hb4
              go_wp2_with fail
              go_ret
              exact ⟨rfl, HB4.out⟩
            | true =>
              have HNM2 : Hid (∀ z ∈ vs.take (k + 1), isName z.name.data.toList = true) := by
                intro z hz
                rw [HTK.out] at hz
                rcases List.mem_append.1 hz with hz | hz
                · exact HNM.out z hz
                · simp at hz; rw [hz]; exact HNM1.out.symm
              cases al with
              | false =>
                have HAL2 : Hid (false = decide (a.take (k + 1) = b.take (k + 1))) := by show _ = _; rw [HTE.out, ← HAL.out]; rfl
                go_wp2_with fail
                go_quiet (fail)
                go_wp2_with fail
                go_roundw
                case rel => exact ⟨k + 1, false, by omega, by go_num, rfl, HAL2.out, HNM2.out, HB3.out.trans (bdrewN (Below.refl _ _) _)⟩
                case measure => simp [intOf]; omega
              | true =>
                have HAL2 : Hid (decide (x = y) = decide (a.take (k + 1) = b.take (k + 1))) := by show _ = _; rw [HTE.out, ← HAL.out]; rfl
                by_cases hxy : x = y
                · have HAL3 : Hid (true = decide (a.take (k + 1) = b.take (k + 1))) := by show _ = _; rw [← HAL2.out, decide_eq_true hxy]
                  have hxy1 : (x == y) = true := by simpa using hxy
                  clear hxy
                  go_wp2_with fail
                  go_quiet (fail)
                  go_wp2_with fail
                  go_roundw
                  case rel => exact ⟨k + 1, true, by omega, by go_num, rfl, HAL3.out, HNM2.out, HB3.out.trans (bdrewN (Below.refl _ _) _)⟩
                  case measure => simp [intOf]; omega
                · have HAL3 : Hid (false = decide (a.take (k + 1) = b.take (k + 1))) := by show _ = _; rw [← HAL2.out, decide_eq_false hxy]
                  have hxy1 : (x == y) = false := by simpa using hxy
                  clear hxy
                  go_wp2_with fail
                  go_quiet (fail)
                  go_wp2_with fail
                  go_roundw
                  case rel => exact ⟨k + 1, false, by omega, by go_num, rfl, HAL3.out, HNM2.out, HB3.out.trans (bdrewN (Below.refl _ _) _)⟩
                  case measure => simp [intOf]; omega
          · have hk1 : ¬ (k : Int) < (n : Int) := by omega
            have HKN : Hid (k = n) := by show k = n; omega
            have HNM2 : Hid (∀ v ∈ vs, isName v.name.data.toList = true) := fun v hv => HNM.out v (by rw [HKN.out, List.take_of_length_le (by rw [← HN.out]; exact Nat.le_refl _)]; exact hv)
            have HAL2 : Hid (al = decide (a = b)) := by
              show _ = _
              rw [HAL.out, HKN.out, List.take_of_length_le (by rw [H1.out, ← HN.out]; exact Nat.le_refl _), List.take_of_length_le (by rw [H2.out, ← HN.out]; exact Nat.le_refl _)]
            have hs1 := state_any vs a Av Aa cv ca wr HSM.out (HV.out.below hbel rfl) (HA.out.below hbel rfl)
            have e1 : (stateT vs a).2 = 0 := by unfold stateT; rw [if_neg (by have := H1.out; omega)]
            have e2 : (stateT vs b).2 = 0 := by unfold stateT; rw [if_neg (by have := H2.out; omega)]
            rw [← HN.out, ← HNA.out, e1] at hs1
            obtain ⟨S1, hS1⟩ : ∃ S1 : ByteArray, S1 = ⟨(stateT vs a).1.toArray⟩ := ⟨_, rfl⟩
            obtain ⟨S2, hS2⟩ : ∃ S2 : ByteArray, S2 = ⟨(stateT vs b).1.toArray⟩ := ⟨_, rfl⟩
            rw [← hS1] at hs1
            have HS2 : Hid (∀ w2, Below w.heap.size w w2 → Calls Tryd.prog 14 #[.slice Av n cv, .slice Ab nb cb] w2 fun e w' => e = .returned (.tuple #[.string S2, .int .i64 0]) ∧ Below w2.heap.size w2 w') := fun w2 hb => by
              have h := state_any vs b Av Ab cv cb w2 HSM.out (HV.out.below hb rfl) (HBB.out.below hb rfl)
              rw [← HN.out, ← HNB.out, e2, ← hS2] at h
              exact h
            have HAP : Hid (al = false → (S1.toList == S2.toList) = false) := fun hf => by
              refine toList_ne fun he => ?_
              have h3 : (stateT vs a).1 = (stateT vs b).1 := by
                have := congrArg (fun z : ByteArray => z.data.toList) (hS1.symm.trans (he.trans hS2))
                simpa using this
              have h4 := state_apart HNM2.out H1.out H2.out h3
              have h5 := HAL2.out
              rw [hf, decide_eq_true h4] at h5
              cases h5
            have HEQ : Hid (al = true → S2 = S1) := fun hf => by
              have h5 := HAL2.out
              rw [hf] at h5
              have h6 : a = b := by simpa using h5.symm
              rw [hS1, hS2, h6]
            have HST := Lib.hid hs1
            clear hlt hs1 e1 e2 hS1 hS2 hbel
            go_wp2_with fail
            refine (HST.out).mono ?_
            rintro e w2 ⟨rfl, hb2⟩
            have hb3 := HBL.out.trans (hb2.mono hszr)
            have hst2 := HS2.out w2 hb3
            have HB3 := Lib.hid hb3
            have HST2 := Lib.hid hst2
            have hs3 := hb3.size
            clear hb2 hb3 hst2
            go_wp2_with fail
            refine (HST2.out).mono ?_
            rintro e w4 ⟨rfl, hb4⟩
            have hb5 := HB3.out.trans (hb4.mono hs3)
            have HB5 := Lib.hid hb5
            have hlv := lives_any w4 (HT.out.below hb5)
            have HLV2 := Lib.hid hlv
            have hs5 := hb5.size
            clear hb4 hb5 hlv
            cases al with
            | true =>
              have he := HEQ.out rfl
              subst he
              go_wp2_with fail
              refine (HLV2.out).mono ?_
              rintro e w6 ⟨rfl, hb6⟩
              have HB6 := Lib.hid (HB5.out.trans (hb6.mono hs5))
              clear hb6
              go_wp2_with fail
              go_ret
              exact ⟨rfl, HB6.out⟩
            | false =>
              have he := HAP.out rfl
              go_wp2_with fail
              refine (HLV2.out).mono ?_
              rintro e w6 ⟨rfl, hb6⟩
              have HB6 := Lib.hid (HB5.out.trans (hb6.mono hs5))
              clear hb6
              go_wp2_with fail
              go_ret
              exact ⟨rfl, HB6.out⟩
      · have h2' : ((nb : Int) != (n : Int)) = true := by simp; omega
        clear h1 h2
        go_wp2_with fail
        refine (HLV.out).mono ?_
        rintro e w1 ⟨rfl, hb1⟩
        have HB1 := Lib.hid hb1
        clear hb1
        go_wp2_with fail
        go_ret
        exact ⟨rfl, HB1.out⟩
    · have h1' : ((na : Int) != (n : Int)) = true := by simp; omega
      clear h1
      go_wp2_with fail
      refine (HLV.out).mono ?_
      rintro e w1 ⟨rfl, hb1⟩
      have HB1 := Lib.hid hb1
      clear hb1
      go_wp2_with fail
      go_ret
      exact ⟨rfl, HB1.out⟩
end Go.Proofs.YtcjblbpkjegmiaaDoor
