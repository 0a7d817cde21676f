/- Walk of the reference: Sub. -/
import Derived.Test.YtncdacafdfknnaaDoorCntN
namespace Go.Proofs.YtncdacafdfknnaaDoor
open Go.RowKit
set_option linter.unusedVariables false

set_option maxRecDepth 100000 in
set_option maxHeartbeats 4000000 in
theorem rsub_any (A1 A2 : Option Addr) (c1 c2 : Nat) (l m : List Nat) (w : World) (hl : l.length ≤ 100000) (hm : m.length ≤ 100000) (hA : DAt w A1 .i64 l) (hB : DAt w A2 .i64 m) (hDl : Dig 10 l) (hDm : Dig 10 m) (hle : val 10 m ≤ val 10 l) :
    Calls Tryd.prog 31 #[.slice A1 l.length c1, .slice A2 m.length c2] w fun e w' => ∃ v, e = .returned v ∧ w'.ownsRow w.heap.size 3 1 v (digs 10 (val 10 l - val 10 m)).length (iv (digs 10 (val 10 l - val 10 m))) ∧ Below w.heap.size w w' := by
  have HA := Lib.hid hA
  have HB := Lib.hid hB
  have HDL := Lib.hid hDl
  have HDM := Lib.hid hDm
  have HLE := Lib.hid hle
  clear hA hB hDl hDm hle
  obtain ⟨n, hn⟩ : ∃ n, n = l.length := ⟨_, rfl⟩
  obtain ⟨k0, hk0⟩ : ∃ k, k = m.length := ⟨_, rfl⟩
  rw [← hn] at hl ⊢
  rw [← hk0] at hm ⊢
  have HN := Lib.hid hn
  have HK := Lib.hid hk0
  clear hn hk0
  go_enter Tryd.func31, Tryd.ntmps31
  go_wp2
  go_loopw [5, 6, 7] (fun so sc si wr => ∃ (i c : Nat) (D : List Nat) (v : Value), si = .int .i64 i ∧ sc = .int .i64 c ∧ v = so ∧ i ≤ n ∧ c ≤ 1 ∧ D.length = i ∧ Dig 10 D ∧ wr.ownsRow w.heap.size 3 1 v D.length (iv D) ∧ val 10 D + val 10 (m.take i) = val 10 (l.take i) + 10 ^ i * c ∧ Below w.heap.size w wr) (fun _ _ i _ => n - (intOf i).toNat)
  case atStart => exact ⟨0, 0, [], _, rfl, rfl, rfl, by omega, by omega, rfl, (fun d hd => by cases hd), World.ownsRow_nil _ _ _ _, by simp [val], Below.refl _ _⟩
  case round =>
    obtain ⟨i, c, D, v, rfl, rfl, rfl, hi, hc, hDl, hDd, how, hv, hbel⟩ := hrel
    have HBL := Lib.hid hbel
    have HDLEN := Lib.hid hDl
    have HDD := Lib.hid hDd
    have HV := Lib.hid hv
    have HLT := Lib.hid how.lt
    have hsz := hbel.size
    by_cases hgo : i < n
    · obtain ⟨x, hx⟩ := getE (l := l) (k := i) (by have := HN.out; omega)
      obtain ⟨y, hy⟩ : ∃ y, y = m.getD i 0 := ⟨_, rfl⟩
      have hxb : x < 10 := HDL.out.at_ hx
      have hyb : y < 10 := by rw [hy]; exact HDM.out.getD10 i
      have hat2 := fun q => (at_any A2 c2 m i (wr.drewN q) (by have := HK.out; omega) (by omega) ((HB.out.belowB hbel rfl).drewN q)).mono fun e w' ⟨h1, h2⟩ => And.intro h1 h2.symm
      rw [← HK.out, ← hy] at hat2
      rcases HA.out.belowB hbel rfl with h9 | ⟨g, off, rfl, hg, hcell⟩
      · rw [h9] at hx; simp at hx
      have x0 := hcell _ _ hx
      have HX := Lib.hid hx
      have HY := Lib.hid hy
      have H2 := Lib.hid hat2
      have hDb : D.length + 1 ≤ 10000000 := by omega
      clear hcell hx hy hat2 hv hDl hDd hbel
      have hi0 : (0 : Int) ≤ (i : Int) := by omega
      have hi1 : (i : Int) < (n : Int) := by omega
      by_cases hneg : x < y + c
      · obtain ⟨z, hz⟩ : ∃ z, z + y + c = x + 10 := ⟨x + 10 - y - c, by omega⟩
        have hzb : z < 10 := by omega
        have hdat : ∀ q, DAt ((wr.drewN q).alloc (.cells #[.int .i64 ((x : Int) - (y : Int) - (c : Int) + 10)] 3)) (some ⟨wr.heap.size, 0, none⟩) .i64 [z] := fun q => by
          rw [show ((x : Int) - (y : Int) - (c : Int) + 10) = (z : Int) from by omega]
          exact dat_new (wr.drewN q) 3 .i64 [z] _ (by rw [World.heap_drewN])
        have HDAT := Lib.hid hdat
        have HOW := Lib.hid (fun q => (own_below how (bdrewN (Below.refl _ _) q)).alloc (.cells #[.int .i64 ((x : Int) - (y : Int) - (c : Int) + 10)] 3))
        have HST := Lib.hid (show z + y + c = x + 10 * 1 by omega)
        have hneg' : (x : Int) - (y : Int) - (c : Int) < 0 := by omega
        clear hdat how hz hneg
        go_wp2_with fail
        go_quiet ((go_at_call 38; exact Calls.quiet_of_same (H2.out _)))
        obtain ⟨nq1, rfl⟩ : ∃ m, m = nq := ⟨_, rfl⟩
        go_wp2_with (with_reducible refine wpList_append_dat rfl _ _ _ _ rfl Tryd.underlying27 Tryd.underlying27 w.heap.size v D.length D rfl (HOW.out _) _ 1 1 [z] rfl rfl (HDAT.out _) (fun h => by cases h) hDb (by simp; omega) ?_; intro v' w1 hown1 hgrow1)
        go_wp2
        go_roundw
        case rel =>
          refine ⟨i + 1, 1, D ++ [z], v', by go_num, rfl, rfl, by omega, by omega, by rw [List.length_append, HDLEN.out]; rfl, dig_snoc HDD.out hzb, by rw [List.length_append]; exact hown1, ?_, ((bdrewN HBL.out _).alloc (by rw [World.heap_drewN]; exact hsz) _).grown hgrow1 (by simp; omega) (fun q hq => (HLT.out q hq).1)⟩
          rw [val_snoc, take_getD 10 m, take_snoc HX.out, val_snoc, HDLEN.out, List.length_take, Nat.min_eq_left (by have := HN.out; omega), ← HY.out]
          exact sub_grow (B := 10) HV.out HST.out
        case measure => first | (simp [intOf]; done) | (simp [intOf]; omega)
      · obtain ⟨z, hz⟩ : ∃ z, z + y + c = x := ⟨x - y - c, by omega⟩
        have hzb : z < 10 := by omega
        have hdat : ∀ q, DAt ((wr.drewN q).alloc (.cells #[.int .i64 ((x : Int) - (y : Int) - (c : Int))] 3)) (some ⟨wr.heap.size, 0, none⟩) .i64 [z] := fun q => by
          rw [show ((x : Int) - (y : Int) - (c : Int)) = (z : Int) from by omega]
          exact dat_new (wr.drewN q) 3 .i64 [z] _ (by rw [World.heap_drewN])
        have HDAT := Lib.hid hdat
        have HOW := Lib.hid (fun q => (own_below how (bdrewN (Below.refl _ _) q)).alloc (.cells #[.int .i64 ((x : Int) - (y : Int) - (c : Int))] 3))
        have HST := Lib.hid (show z + y + c = x + 10 * 0 by omega)
        have hneg' : ¬ (x : Int) - (y : Int) - (c : Int) < 0 := by omega
        clear hdat how hz hneg
        go_wp2_with fail
        go_quiet ((go_at_call 38; exact Calls.quiet_of_same (H2.out _)))
        obtain ⟨nq1, rfl⟩ : ∃ m, m = nq := ⟨_, rfl⟩
        go_wp2_with (with_reducible refine wpList_append_dat rfl _ _ _ _ rfl Tryd.underlying27 Tryd.underlying27 w.heap.size v D.length D rfl (HOW.out _) _ 1 1 [z] rfl rfl (HDAT.out _) (fun h => by cases h) hDb (by simp; omega) ?_; intro v' w1 hown1 hgrow1)
        go_wp2
        go_roundw
        case rel =>
          refine ⟨i + 1, 0, D ++ [z], v', by go_num, rfl, rfl, by omega, by omega, by rw [List.length_append, HDLEN.out]; rfl, dig_snoc HDD.out hzb, by rw [List.length_append]; exact hown1, ?_, ((bdrewN HBL.out _).alloc (by rw [World.heap_drewN]; exact hsz) _).grown hgrow1 (by simp; omega) (fun q hq => (HLT.out q hq).1)⟩
          rw [val_snoc, take_getD 10 m, take_snoc HX.out, val_snoc, HDLEN.out, List.length_take, Nat.min_eq_left (by have := HN.out; omega), ← HY.out]
          exact sub_grow (B := 10) HV.out HST.out
        case measure => first | (simp [intOf]; done) | (simp [intOf]; omega)
    · have hin : i = n := by omega
      have htl : l.take i = l := List.take_of_length_le (by have := HN.out; omega)
      have hvl : val 10 l < 10 ^ i := by have := val_lt (b := 10) (by decide) HDL.out; rwa [← HN.out, ← hin] at this
      have hvd : val 10 D < 10 ^ i := by have := val_lt (b := 10) (by decide) hDd; rwa [hDl] at this
      have hvm : val 10 (m.take i) = val 10 m := by
        rcases Nat.le_total i m.length with h | h
        · have h1 := val_split 10 m i h
          have h2 := HLE.out
          rcases Nat.eq_zero_or_pos (val 10 (m.drop i)) with h3 | h3
          · rw [h1, h3]; simp
          · have h4 : 10 ^ i * 1 ≤ 10 ^ i * val 10 (m.drop i) := Nat.mul_le_mul_left _ h3
            omega
        · rw [List.take_of_length_le h]
      rw [htl, hvm] at hv
      have hc0 : c = 0 := by
        have h2 := HLE.out
        rcases Nat.eq_zero_or_pos c with h | h
        · exact h
        · have h1 : c = 1 := by omega
          rw [h1, Nat.mul_one] at hv
          omega
      have hvv : val 10 D = val 10 l - val 10 m := by rw [hc0] at hv; simp at hv; omega
      obtain ⟨A', c', hv2, hnil, hlc, hcm, hdat⟩ := dat_of_own how
      have hcut := cut_any A' c' D wr (by omega) hlc hcm hnil hdat hDd
      rw [hvv] at hcut
      have HCUT := Lib.hid hcut
      have h1' : ¬ (i : Int) < (n : Int) := by omega
      subst hv2
      clear hcut hv htl hvl hvd hvm hvv hnil hlc hcm hdat how hDd hDl hbel hgo hc0 hin
      go_wp2_with fail
      refine (HCUT.out).mono ?_
      rintro e w3 ⟨v3, rfl, how3, hb3⟩
      have HOW3 := Lib.hid how3
      have HB3 := Lib.hid (HBL.out.trans (hb3.mono hsz))
      clear how3 hb3
      go_wp2
      go_ret
      exact ⟨_, rfl, own_base HOW3.out hsz, HB3.out⟩
end Go.Proofs.YtncdacafdfknnaaDoor
