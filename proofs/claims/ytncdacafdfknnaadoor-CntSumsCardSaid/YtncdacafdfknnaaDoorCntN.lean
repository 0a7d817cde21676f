/- Walks of the reference: Cmp, Sub. -/
import Derived.Test.YtncdacafdfknnaaDoorCntM
namespace Go.Proofs.YtncdacafdfknnaaDoor
open Go.RowKit
set_option linter.unusedVariables false

def pad (N : Nat) (l : List Nat) : List Nat := l ++ List.replicate (N - l.length) 0
theorem val_pad (b N : Nat) (l : List Nat) : val b (pad N l) = val b l := val_append_zeros _ _ _
theorem pad_length {N : Nat} {l : List Nat} (h : l.length ≤ N) : (pad N l).length = N := by unfold pad; rw [List.length_append, List.length_replicate]; omega
theorem pad_get {N : Nat} {l : List Nat} (h : l.length ≤ N) {j : Nat} (hj : j < N) : (pad N l)[j]? = some (l.getD j 0) := by
  unfold pad
  rcases Nat.lt_or_ge j l.length with h1 | h1
  · rw [List.getElem?_append_left h1]
    obtain ⟨d, hd⟩ := getE h1
    simp [List.getD, hd]
  · rw [List.getElem?_append_right h1, List.getElem?_replicate, if_pos (by omega)]
    simp [List.getD, List.getElem?_eq_none h1]
theorem dig_pad {b N : Nat} (hb : 0 < b) {l : List Nat} (h : Dig b l) : Dig b (pad N l) := by
  intro x hx
  rcases List.mem_append.1 hx with hx | hx
  · exact h x hx
  · exact dig_replicate hb _ x hx
theorem pad_drop {N : Nat} {l m : List Nat} (hl : l.length ≤ N) (hm : m.length ≤ N) {i : Nat} (h : ∀ j, i ≤ j → l.getD j 0 = m.getD j 0) : (pad N l).drop i = (pad N m).drop i := by
  apply List.ext_getElem?
  intro j
  rw [List.getElem?_drop, List.getElem?_drop]
  rcases Nat.lt_or_ge (i + j) N with h1 | h1
  · rw [pad_get hl h1, pad_get hm h1, h _ (by omega)]
  · rw [List.getElem?_eq_none (by rw [pad_length hl]; exact h1), List.getElem?_eq_none (by rw [pad_length hm]; exact h1)]
theorem val_lt_pad {N : Nat} {l m : List Nat} (hl : l.length ≤ N) (hm : m.length ≤ N) (hdl : Dig 10 l) (hdm : Dig 10 m) {i : Nat} (hi : i < N) (h : ∀ j, i + 1 ≤ j → l.getD j 0 = m.getD j 0) (hlt : l.getD i 0 < m.getD i 0) : val 10 l < val 10 m := by
  rw [← val_pad 10 N l, ← val_pad 10 N m]
  exact val_lt_of (by decide) (dig_pad (by decide) hdl) (dig_pad (by decide) hdm) (pad_get hl hi) (pad_get hm hi) (pad_drop hl hm h) hlt
theorem val_eq_pad {N : Nat} {l m : List Nat} (hl : l.length ≤ N) (hm : m.length ≤ N) (h : ∀ j, l.getD j 0 = m.getD j 0) : val 10 l = val 10 m := by
  have := pad_drop (i := 0) hl hm (fun j _ => h j)
  rw [List.drop_zero, List.drop_zero] at this
  rw [← val_pad 10 N l, ← val_pad 10 N m, this]

set_option maxRecDepth 100000 in
set_option maxHeartbeats 4000000 in
theorem rcmp_any (A1 A2 : Option Addr) (c1 c2 : Nat) (l m : List Nat) (w : World) (hl : l.length ≤ 100000) (hm : m.length ≤ 100000) (hA : DAt w A1 .i64 l) (hB : DAt w A2 .i64 m) (hDl : Dig 10 l) (hDm : Dig 10 m) :
    Calls Tryd.prog 18 #[.slice A1 l.length c1, .slice A2 m.length c2] w fun e w' => e = .returned (.int .i64 (cmpI (val 10 l) (val 10 m))) ∧ w = w' := by
  have HAT1 := Lib.hid (fun (i : Nat) (hi : i ≤ 10000000) => at_any A1 c1 l i w (by omega) hi hA)
  have HAT2 := Lib.hid (fun (i : Nat) (hi : i ≤ 10000000) => at_any A2 c2 m i w (by omega) hi hB)
  have HDL := Lib.hid hDl
  have HDM := Lib.hid hDm
  clear hA hB hDl hDm
  obtain ⟨n, hn⟩ : ∃ n, n = l.length := ⟨_, rfl⟩
  obtain ⟨k0, hk0⟩ : ∃ k, k = m.length := ⟨_, rfl⟩
  rw [← hn] at hl HAT1 ⊢
  rw [← hk0] at hm HAT2 ⊢
  have HN := Lib.hid hn
  have HK := Lib.hid hk0
  clear hn hk0
  obtain ⟨N, hN, hN1, hN2, hN3⟩ : ∃ N, (n < k0 → N = k0) ∧ n ≤ N ∧ k0 ≤ N ∧ (¬ n < k0 → N = n) := by
    by_cases h : n < k0
    · exact ⟨k0, fun _ => rfl, by omega, by omega, fun h2 => absurd h h2⟩
    · exact ⟨n, fun h2 => absurd h2 h, by omega, by omega, fun _ => rfl⟩
  have hN4 : N ≤ 100000 := by
    by_cases h : n < k0
    · rw [hN h]; exact hm
    · rw [hN3 h]; exact hl
  by_cases hmx : n < k0
  all_goals
    first
      | (have hNN := Lib.hid (hN hmx))
      | (have hNN := Lib.hid (hN3 hmx))
    first
      | (have hd1 : decide (n < k0) = true := by simpa using hmx)
      | (have hd1 : decide (n < k0) = false := by simpa using hmx)
    clear hN hN3 hmx
    go_enter Tryd.func18, Tryd.ntmps18
    go_wp2_with fail
    go_loop [6] (fun si => ∃ i : Int, -1 ≤ i ∧ i < N ∧ si = .int .i64 i ∧ ∀ j : Nat, (i : Int) < (j : Int) → l.getD j 0 = m.getD j 0) (fun i => (intOf i + 1).toNat)
    case atStart =>
      exact ⟨_, by omega, by have := hNN.out; omega, rfl, fun j hj => by
        have := hNN.out
        simp [List.getD, List.getElem?_eq_none (show l.length ≤ j by have := HN.out; omega), List.getElem?_eq_none (show m.length ≤ j by have := HK.out; omega)]⟩
    case round =>
      obtain ⟨i, hi1, hi2, rfl, hall⟩ := hrel
      have HALL := Lib.hid hall
      clear hall
      by_cases h0 : 0 ≤ i
      · obtain ⟨j, rfl⟩ : ∃ j : Nat, i = j := ⟨i.toNat, by omega⟩
        have FL := Lib.hid (fun (h : l.getD j 0 < m.getD j 0) => val_lt_pad (N := N) (by have := HN.out; omega) (by have := HK.out; omega) HDL.out HDM.out (i := j) (by omega) (fun q hq => HALL.out q (by omega)) h)
        have FG := Lib.hid (fun (h : m.getD j 0 < l.getD j 0) => val_lt_pad (N := N) (by have := HK.out; omega) (by have := HN.out; omega) HDM.out HDL.out (i := j) (by omega) (fun q hq => (HALL.out q (by omega)).symm) h)
        have hat1 := HAT1.out j (by omega)
        have hat2 := HAT2.out j (by omega)
        obtain ⟨a, ha⟩ : ∃ a, a = l.getD j 0 := ⟨_, rfl⟩
        obtain ⟨b, hb⟩ : ∃ b, b = m.getD j 0 := ⟨_, rfl⟩
        rw [← ha] at hat1 FL FG
        rw [← hb] at hat2 FL FG
        have H1 := Lib.hid hat1
        have H2 := Lib.hid hat2
        have HA := Lib.hid ha
        have HB := Lib.hid hb
        clear hat1 hat2 ha hb
        have hj0 : (0 : Int) ≤ (j : Int) := by omega
        rcases Nat.lt_trichotomy a b with hab | hab | hab
        · have HV := Lib.hid (cmpI_lt (FL.out hab))
          have d1 : decide (a < b) = true := by simpa using hab
          clear hab
          go_wp2_with fail
          refine (H1.out).mono ?_
          rintro e w3 ⟨rfl, hw⟩
          rw [← hw]
          clear hw
          go_wp2_with fail
          refine (H2.out).mono ?_
          rintro e w3 ⟨rfl, hw⟩
          rw [← hw]
          clear hw
          go_wp2
          go_ret
          rw [HV.out]
          exact ⟨rfl, rfl⟩
        · subst hab
          have d1 : decide (a < a) = false := by simp
          go_wp2_with fail
          refine (H1.out).mono ?_
          rintro e w3 ⟨rfl, hw⟩
          rw [← hw]
          clear hw
          go_wp2_with fail
          refine (H2.out).mono ?_
          rintro e w3 ⟨rfl, hw⟩
          rw [← hw]
          clear hw
          go_wp2_with fail
          refine (H1.out).mono ?_
          rintro e w3 ⟨rfl, hw⟩
          rw [← hw]
          clear hw
          go_wp2_with fail
          refine (H2.out).mono ?_
          rintro e w3 ⟨rfl, hw⟩
          rw [← hw]
          clear hw
          go_wp2
          go_round
          case rel => exact ⟨(j : Int) - 1, by omega, by omega, rfl, fun q hq => by
            rcases Nat.lt_or_ge j q with h1 | h1
            · exact HALL.out q (by omega)
            · have : q = j := by omega
              rw [this, ← HA.out, ← HB.out]⟩
          case measure => first | (simp [intOf]; done) | (simp [intOf]; omega)
        · have HV := Lib.hid (cmpI_gt (FG.out hab))
          have d1 : decide (a < b) = false := by simp; omega
          have d2 : decide (b < a) = true := by simpa using hab
          clear hab
          go_wp2_with fail
          refine (H1.out).mono ?_
          rintro e w3 ⟨rfl, hw⟩
          rw [← hw]
          clear hw
          go_wp2_with fail
          refine (H2.out).mono ?_
          rintro e w3 ⟨rfl, hw⟩
          rw [← hw]
          clear hw
          go_wp2_with fail
          refine (H1.out).mono ?_
          rintro e w3 ⟨rfl, hw⟩
          rw [← hw]
          clear hw
          go_wp2_with fail
          refine (H2.out).mono ?_
          rintro e w3 ⟨rfl, hw⟩
          rw [← hw]
          clear hw
          go_wp2
          go_ret
          rw [HV.out]
          exact ⟨rfl, rfl⟩
      · have hi : i = -1 := by omega
        subst hi
        have HV := Lib.hid (cmpI_eq (val_eq_pad (N := N) (by have := HN.out; omega) (by have := HK.out; omega) (fun j => HALL.out j (by omega))))
        go_wp2
        go_ret
        rw [HV.out]
        exact ⟨rfl, rfl⟩
end Go.Proofs.YtncdacafdfknnaaDoor
