/- Walks of the reference: Times, Cmp. -/
import Derived.Test.YtncdacafdfknnaaDoorCntL
namespace Go.Proofs.YtncdacafdfknnaaDoor
open Go.RowKit
set_option linter.unusedVariables false

theorem times_dec {k P X t c x : Nat} (h : P + 10 ^ k * c = X * t) : (P + 10 ^ k * ((c + t * x) % 10)) + 10 ^ (k + 1) * ((c + t * x) / 10) = (X + 10 ^ k * x) * t := by
  have h1 := by_step 10 k P X c x t 0 h
  rw [Nat.mul_comm x t] at h1
  exact h1

set_option maxRecDepth 100000 in
set_option maxHeartbeats 4000000 in
theorem rtimes_any (A1 : Option Addr) (c1 : Nat) (l : List Nat) (t : Nat) (w : World) (hl : l.length ≤ 100000) (ht : t ≤ 65536) (hA : DAt w A1 .i64 l) (hDl : Dig 10 l) :
    Calls Tryd.prog 33 #[.slice A1 l.length c1, .int .i64 (t : Nat)] w fun e w' => ∃ v, e = .returned v ∧ w'.ownsRow w.heap.size 3 1 v (digs 10 (val 10 l * t)).length (iv (digs 10 (val 10 l * t))) ∧ Below w.heap.size w w' := by
  have HA := Lib.hid hA
  have HDL := Lib.hid hDl
  clear hA hDl
  obtain ⟨n, hn⟩ : ∃ n, n = l.length := ⟨_, rfl⟩
  rw [← hn] at hl ⊢
  have HN := Lib.hid hn
  clear hn
  go_enter Tryd.func33, Tryd.ntmps33
  go_wp2
  go_loopw [5, 6, 7] (fun so sc si wr => ∃ (i c : Nat) (D : List Nat) (v : Value), si = .int .i64 i ∧ sc = .int .i64 c ∧ v = so ∧ c ≤ 65536 ∧ (i ≤ n ∨ c + (i - n) ≤ 65536) ∧ D.length = i ∧ Dig 10 D ∧ wr.ownsRow w.heap.size 3 1 v D.length (iv D) ∧ val 10 D + 10 ^ i * c = val 10 (l.take i) * t ∧ Below w.heap.size w wr) (fun _ c i _ => (n - (intOf i).toNat) * 65537 + (intOf c).toNat)
  case atStart => exact ⟨0, 0, [], _, rfl, rfl, rfl, by omega, .inl (Nat.zero_le _), rfl, (fun d hd => by cases hd), World.ownsRow_nil _ _ _ _, by simp [val], Below.refl _ _⟩
  case round =>
    obtain ⟨i, c, D, v, rfl, rfl, rfl, hc, hic, hDl, hDd, how, hv, hbel⟩ := hrel
    have HBL := Lib.hid hbel
    have HDLEN := Lib.hid hDl
    have HDD := Lib.hid hDd
    have HV := Lib.hid hv
    have HLT := Lib.hid how.lt
    have hsz := hbel.size
    by_cases hgo : i < n ∨ 0 < c
    · have hi2 : i ≤ 200000 := by omega
      obtain ⟨x, hx⟩ : ∃ x, x = l.getD i 0 := ⟨_, rfl⟩
      have hxb : x < 10 := by rw [hx]; exact HDL.out.getD10 i
      have hat1 := at_any A1 c1 l i wr (by have := HN.out; omega) (by omega) (HA.out.belowB hbel rfl)
      rw [← HN.out, ← hx] at hat1
      have hxM : n ≤ i → x = 0 := fun h => by rw [hx]; simp [List.getD, List.getElem?_eq_none (show l.length ≤ i by have := HN.out; omega)]
      have hmul : t * x ≤ 65536 * 9 := Nat.mul_le_mul ht (by omega)
      have hmul0 : n ≤ i → t * x = 0 := fun h => by rw [hxM h, Nat.mul_zero]
      obtain ⟨q, hq⟩ : ∃ q, q = t * x := ⟨_, rfl⟩
      rw [← hq] at hmul hmul0
      have hq1 : (t : Int) * (x : Int) = (q : Int) := by rw [hq]; exact (Int.natCast_mul t x).symm
      have hnext : i + 1 ≤ n ∨ (c + q) / 10 + (i + 1 - n) ≤ 65536 := by
        by_cases h : i + 1 ≤ n
        · exact .inl h
        · right
          have h1 := hmul0 (by omega)
          omega
      have hc2 : (c + q) / 10 ≤ 65536 := by omega
      have hmeas : (n - (i + 1)) * 65537 + (c + q) / 10 < (n - i) * 65537 + c := by
        by_cases h : i < n
        · have e : n - i = (n - (i + 1)) + 1 := by omega
          rw [e, Nat.add_mul]
          omega
        · have h1 := hmul0 (by omega)
          have e : n - i = 0 := by omega
          have e2 : n - (i + 1) = 0 := by omega
          rw [e, e2]
          omega
      have hat1' := Lib.hid hat1
      have HX := Lib.hid hx
      have HNXT := Lib.hid hnext
      have HMEAS := Lib.hid hmeas
      have HQ := Lib.hid hq
      have hdat : DAt (wr.alloc (.cells #[.int .i64 (((c : Int) + (q : Int)) % 10)] 3)) (some ⟨wr.heap.size, 0, none⟩) .i64 [(c + q) % 10] := by
        rw [show (((c : Int) + (q : Int)) % 10) = (((c + q) % 10 : Nat) : Int) from by omega]
        exact dat_new wr 3 .i64 [(c + q) % 10] _ rfl
      have HDAT := Lib.hid hdat
      have HOW := Lib.hid (how.alloc (.cells #[.int .i64 (((c : Int) + (q : Int)) % 10)] 3))
      have hDb : D.length + 1 ≤ 10000000 := by omega
      clear hdat hat1 hx hq hxM hmul0 hnext hmeas how hv hDl hDd hbel hic
      have hi0 : (0 : Int) ≤ (i : Int) := by omega
      rcases (show i < n ∨ (¬ i < n ∧ 0 < c) by omega) with h | ⟨h, h2⟩
      all_goals
        clear hgo
        go_wp2_with fail
        refine (hat1'.out).mono ?_
        rintro e w3 ⟨rfl, hw⟩
        rw [← hw]
        clear hw
        go_wp2_with (with_reducible refine wpList_append_dat rfl _ _ _ _ rfl Tryd.underlying27 Tryd.underlying27 w.heap.size v D.length D rfl HOW.out _ 1 1 [(c + q) % 10] rfl rfl HDAT.out (fun h => by cases h) hDb (by simp; omega) ?_; intro v' w1 hown1 hgrow1)
        go_wp2
        go_roundw
        case rel =>
          rw [show (((c : Int) + (q : Int)) / 10) = (((c + q) / 10 : Nat) : Int) from by omega]
          refine ⟨i + 1, (c + q) / 10, D ++ [(c + q) % 10], v', by go_num, rfl, rfl, hc2, HNXT.out, by rw [List.length_append, HDLEN.out]; rfl, dig_snoc HDD.out (Nat.mod_lt _ (by decide)), by rw [List.length_append]; exact hown1, ?_, (HBL.out.alloc hsz _).grown hgrow1 (by simp; omega) (fun q hq => (HLT.out q hq).1)⟩
          rw [val_snoc, take_getD, HDLEN.out, ← HX.out, HQ.out]
          exact times_dec HV.out
        case measure =>
          have h9 := HMEAS.out
          simp only [intOf]
          rw [show (((c : Int) + (q : Int)) / 10) = (((c + q) / 10 : Nat) : Int) from by omega, show ((i : Int) + 1) = ((i + 1 : Nat) : Int) from by omega]
          simp only [Int.toNat_natCast]
          exact h9
    · have hc0 : c = 0 := by omega
      have htl : l.take i = l := List.take_of_length_le (by have := HN.out; omega)
      rw [hc0, Nat.mul_zero, Nat.add_zero, htl] at hv
      obtain ⟨A', c', hv2, hnil, hlc, hcm, hdat⟩ := dat_of_own how
      have hcut := cut_any A' c' D wr (by omega) hlc hcm hnil hdat hDd
      rw [hv] at hcut
      have HCUT := Lib.hid hcut
      have h1' : ¬ (i : Int) < (n : Int) := by omega
      have h3 : ¬ (0 : Int) < (c : Int) := by omega
      subst hv2
      clear hcut hv htl hnil hlc hcm hdat how hDd hDl hbel hic hgo hc0
      go_wp2_with fail
      refine (HCUT.out).mono ?_
      rintro e w3 ⟨v3, rfl, how3, hb3⟩
      have HOW3 := Lib.hid how3
      have HB3 := Lib.hid (HBL.out.trans (hb3.mono hsz))
      clear how3 hb3
      go_wp2
      go_ret
      exact ⟨_, rfl, own_base HOW3.out hsz, HB3.out⟩
end Go.Proofs.YtncdacafdfknnaaDoor
