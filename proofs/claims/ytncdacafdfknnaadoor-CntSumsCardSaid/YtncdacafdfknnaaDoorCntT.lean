/- Walks: Is; few; same. -/
import Derived.Test.YtncdacafdfknnaaDoorCntS
namespace Go.Proofs.YtncdacafdfknnaaDoor
open Go.RowKit
set_option linter.unusedVariables false

set_option maxHeartbeats 2000000 in
theorem ris_any (A1 A2 : Option Addr) (c1 m c : Nat) (l : List Nat) (x : Nat) (w : World) (hl : l.length ≤ 1000) (hA : DAt w A1 .u32 l) (hDl : Dig B32 l) (hn : NumAt w A2 m c x) (hm : m ≤ 100000) (hnb : normB l = true) (hv : val B32 l = x) :
    Calls Tryd.prog 12 #[.slice A1 l.length c1, .slice A2 m c] w fun e w' => e = .returned (.bool true) ∧ Below w.heap.size w w' := by
  have h1 := rright_any A1 c1 l w (by omega) hA
  rw [hnb] at h1
  have HR := Lib.hid h1
  have h2 := from_any A1 c1 l w hl hA hDl
  rw [hv] at h2
  have HF := Lib.hid h2
  have HN := Lib.hid hn
  have hlv := len_val hDl
  rw [hv] at hlv
  have HC := Lib.hid (cmpI_eq (x := x) (y := x) rfl)
  clear h1 h2 hA hDl hn hnb hv
  go_enter Tryd.func12, Tryd.ntmps12
  go_wp2_with fail
  refine (HR.out).mono ?_
  rintro e w3 ⟨rfl, hw⟩
  rw [← hw]
  clear hw
  go_wp2_with fail
  refine (HF.out).mono ?_
  rintro e w1 ⟨A3, m3, c3, rfl, hn3, hb3⟩
  have hm3 : m3 ≤ 10000 := by rw [hn3.len]; omega
  have hcm := rcmp_num A3 A2 m3 c3 m c x x w1 hn3 (HN.out.below hb3 rfl) (by omega) hm
  rw [HC.out] at hcm
  have HCM := Lib.hid hcm
  have HB3 := Lib.hid hb3
  clear hn3 hb3 hcm
  go_wp2_with fail
  refine (HCM.out).mono ?_
  rintro e w3 ⟨rfl, hw⟩
  rw [← hw]
  clear hw
  go_wp2
  go_ret
  exact ⟨rfl, HB3.out⟩

/-- Whether all are short, and few. -/
def fewB (ls : List (List Nat)) : Bool := ls.all (fun l => decide (l.length ≤ 40)) && decide (ls.length ≤ 20)

set_option maxRecDepth 100000 in
set_option maxHeartbeats 2000000 in
theorem few_any (A : Option Addr) (c0 : Nat) (ls : List (List Nat)) (w : World) (hl : ls.length ≤ maxLen) (hA : NatsAt w A ls) :
    Calls Tryd.prog 7 #[.slice A ls.length c0] w fun e w' => e = .returned (.bool (fewB ls)) ∧ w = w' := by
  unfold maxLen at hl
  have HA := Lib.hid hA
  clear hA
  obtain ⟨n, hn⟩ : ∃ n, n = ls.length := ⟨_, rfl⟩
  rw [← hn] at hl ⊢
  have HN := Lib.hid hn
  clear hn
  obtain ⟨r, hr⟩ : ∃ r, r = fewB ls := ⟨_, rfl⟩
  rw [← hr]
  have HR := Lib.hid hr
  clear hr
  go_enter Tryd.func7, Tryd.ntmps7
  go_wp2
  go_loop [7] (fun si => ∃ k : Nat, k ≤ n ∧ si = .int .i64 k ∧ ∀ (j : Nat) (l : List Nat), j < k → ls[j]? = some l → l.length ≤ 40) (fun i => n - (intOf i).toNat)
  case atStart => exact ⟨0, Nat.zero_le _, rfl, fun j l hj => by omega⟩
  case round =>
    obtain ⟨k, hk, rfl, hall⟩ := hrel
    have HALL := Lib.hid hall
    clear hall
    by_cases hlt : k < n
    · obtain ⟨l, hlk⟩ : ∃ l, ls[k]? = some l := ⟨_, List.getElem?_eq_getElem (by have := HN.out; omega)⟩
      rcases HA.out with h9 | ⟨g, off, rfl, hg, hcell⟩
      · rw [h9] at hlk; simp at hlk
      obtain ⟨a, ca, hca, hca2, hcl, hda⟩ := hcell k l hlk
      obtain ⟨na, hna⟩ : ∃ na, na = l.length := ⟨_, rfl⟩
      rw [← hna] at hcl
      have HNA := Lib.hid hna
      have HLK := Lib.hid hlk
      clear hcell hlk hna hda hca hca2
      have hk0 : (0 : Int) ≤ (k : Int) := by omega
      have hk1 : (k : Int) < (n : Int) := by omega
      by_cases h40 : 40 < na
      · have hrf : r = false := by
          rw [HR.out]
          unfold fewB
          have : ls.all (fun l => decide (l.length ≤ 40)) = false := by
            rw [List.all_eq_false]
            exact ⟨l, List.mem_of_getElem? HLK.out, by simp; have := HNA.out; omega⟩
          rw [this]
          rfl
        have HRF := Lib.hid hrf
        have h40' : (40 : Int) < (na : Int) := by omega
        clear hrf
        go_wp2
        go_ret
        exact ⟨by rw [HRF.out]; rfl, rfl⟩
      · have h40' : ¬ (40 : Int) < (na : Int) := by omega
        go_wp2
        go_round
        case rel => exact ⟨k + 1, by omega, by go_num, fun j l2 hj hl2 => by
          rcases Nat.lt_or_ge j k with h | h
          · exact HALL.out j l2 h hl2
          · have : j = k := by omega
            subst this
            rw [HLK.out] at hl2
            injection hl2 with hl2
            rw [← hl2, ← HNA.out]
            omega⟩
        case measure => first | (simp [intOf]; done) | (simp [intOf]; omega)
    · have hkn : k = n := by omega
      subst hkn
      have hrf : r = decide (k ≤ 20) := by
        rw [HR.out]
        unfold fewB
        have : ls.all (fun l => decide (l.length ≤ 40)) = true := by
          rw [List.all_eq_true]
          intro l hl2
          obtain ⟨j, hj⟩ := List.getElem?_of_mem hl2
          have hjl := (List.getElem?_eq_some_iff.1 hj).1
          simpa using HALL.out j l (by have := HN.out; omega) hj
        rw [this, ← HN.out]
        rfl
      have HRF := Lib.hid hrf
      have hd : decide ((k : Int) ≤ 20) = decide (k ≤ 20) := by
        by_cases h : k ≤ 20
        · rw [decide_eq_true h, decide_eq_true (by omega)]
        · rw [decide_eq_false h, decide_eq_false (by omega)]
      have HDD := Lib.hid hd
      have hk1 : ¬ (k : Int) < (k : Int) := by omega
      clear hrf hd
      go_wp2
      go_ret
      exact ⟨by rw [HRF.out, ← HDD.out]; rfl, rfl⟩
end Go.Proofs.YtncdacafdfknnaaDoor
