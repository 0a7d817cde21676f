/- Walks of the reference: Of, Add. -/
import Derived.Test.YtncdacafdfknnaaDoorCntK
namespace Go.Proofs.YtncdacafdfknnaaDoor
open Go.RowKit
set_option linter.unusedVariables false

theorem own_below {w w' : World} {base : Nat} {e : TypeId} {size : Nat} {v : Value} {n : Nat} {xs : List Value} (h : w.ownsRow base e size v n xs) (hb : Below w.heap.size w w') : w'.ownsRow base e size v n xs := by
  refine ⟨h.1, ?_⟩
  rcases h.2 with hn | ⟨g, cap, cur, rfl, hb', hgg, rest⟩
  · exact .inl hn
  · refine .inr ⟨g, cap, cur, rfl, hb', ?_, rest⟩
    rw [hb.block g ?_]
    · exact hgg
    · exact (h.lt g rfl).2

set_option maxRecDepth 100000 in
set_option maxHeartbeats 2000000 in
theorem rof_any (n : Nat) (w : World) (hn : n < 18446744073709551616) :
    Calls Tryd.prog 16 #[.int .u64 (n : Nat)] w fun e w' => ∃ v, e = .returned v ∧ w'.ownsRow w.heap.size 3 1 v (digs 10 n).length (iv (digs 10 n)) ∧ Below w.heap.size w w' := by
  have hlen : (digs 10 n).length ≤ 20 := digs_len (by decide) _ _ (Nat.lt_of_lt_of_le hn (by decide))
  obtain ⟨R, hR⟩ : ∃ R, R = digs 10 n := ⟨_, rfl⟩
  rw [← hR] at hlen ⊢
  have HR := Lib.hid hR
  clear hR
  go_enter Tryd.func16, Tryd.ntmps16
  go_wp2
  go_loopw [0, 3] (fun sn so wr => ∃ (m : Nat) (D : List Nat) (v : Value), m ≤ n ∧ sn = .int .u64 m ∧ v = so ∧ wr.ownsRow w.heap.size 3 1 v D.length (iv D) ∧ R = D ++ digs 10 m ∧ Below w.heap.size w wr) (fun m _ _ => (intOf m).toNat)
  case atStart => exact ⟨n, [], _, Nat.le_refl _, rfl, rfl, World.ownsRow_nil _ _ _ _, HR.out, Below.refl _ _⟩
  case round =>
    obtain ⟨m, D, v, hm, rfl, rfl, how, hD, hbel⟩ := hrel
    have HB := Lib.hid hbel
    have HD := Lib.hid hD
    have hsz := hbel.size
    by_cases h0 : 0 < m
    · have h0' : (0 : Int) < (m : Int) := by omega
      have hD2 : R = (D ++ [m % 10]) ++ digs 10 (m / 10) := by rw [HD.out, digs_pos (by decide) (by omega)]; simp
      have hDl : D.length < 20 := by
        have := congrArg List.length hD2
        simp only [List.length_append, List.length_cons, List.length_nil] at this
        omega
      have hdat : DAt (wr.alloc (.cells #[.int .i64 ((m : Int) % 10)] 3)) (some ⟨wr.heap.size, 0, none⟩) .i64 [m % 10] := by
        rw [show ((m : Int) % 10) = ((m % 10 : Nat) : Int) from by omega]
        exact dat_new wr 3 .i64 [m % 10] _ rfl
      have HDAT := Lib.hid hdat
      have HOW := Lib.hid (how.alloc (.cells #[.int .i64 ((m : Int) % 10)] 3))
      have HD2 := Lib.hid hD2
      have HLT := Lib.hid how.lt
      clear hD hD2 hdat how hbel
      go_wp2_with (with_reducible refine wpList_append_dat rfl _ _ _ _ rfl Tryd.underlying28 Tryd.underlying28 w.heap.size v D.length D rfl HOW.out _ 1 1 [m % 10] rfl rfl HDAT.out (fun h => by cases h) (by omega) (by simp; omega) ?_; intro v' w1 hown1 hgrow1)
      go_wp2
      go_roundw
      case rel => exact ⟨m / 10, D ++ [m % 10], v', by omega, by go_num, rfl, by rw [List.length_append]; exact hown1, HD2.out, (HB.out.alloc hsz _).grown hgrow1 (by simp; omega) (fun q hq => (HLT.out q hq).1)⟩
      case measure => simp [intOf]; omega
    · have hm0 : m = 0 := by omega
      subst hm0
      have hRD : R = D := by rw [HD.out, digs_zero, List.append_nil]
      have h0' : ¬ (0 : Int) < ((0 : Nat) : Int) := by omega
      have HOW := Lib.hid how
      clear how hD hbel
      go_wp2
      go_ret
      exact ⟨_, rfl, HOW.out, HB.out⟩

theorem dig_snoc {b : Nat} {l : List Nat} {d : Nat} (h : Dig b l) (hd : d < b) : Dig b (l ++ [d]) := by
  intro x hx
  rcases List.mem_append.1 hx with hx | hx
  · exact h x hx
  · simp at hx
    subst hx
    exact hd
theorem own_base {w : World} {base base' : Nat} {e : TypeId} {size : Nat} {v : Value} {n : Nat} {xs : List Value} (h : w.ownsRow base' e size v n xs) (hb : base ≤ base') : w.ownsRow base e size v n xs := by
  refine ⟨h.1, ?_⟩
  rcases h.2 with hn | ⟨g, cap, cur, rfl, hb', rest⟩
  · exact .inl hn
  · exact .inr ⟨g, cap, cur, rfl, Nat.le_trans hb hb', rest⟩
theorem add_dec {k P X Y c x y : Nat} (h : P + 10 ^ k * c = X + Y) : (P + 10 ^ k * ((c + x + y) % 10)) + 10 ^ (k + 1) * ((c + x + y) / 10) = (X + 10 ^ k * x) + (Y + 10 ^ k * y) :=
  add_grow (B := 10) h (by have := Nat.mod_add_div (c + x + y) 10; omega)

theorem Dig.getD10 {l : List Nat} (h : Dig 10 l) (k : Nat) : l.getD k 0 < 10 := by
  rcases Nat.lt_or_ge k l.length with h1 | h1
  · obtain ⟨d, hd⟩ := getE h1
    simp only [List.getD, hd, Option.getD_some]
    exact h.at_ hd
  · simp [List.getD, List.getElem?_eq_none h1]

set_option maxRecDepth 100000 in
set_option maxHeartbeats 4000000 in
theorem radd_any (A1 A2 : Option Addr) (c1 c2 : Nat) (l m : List Nat) (w : World) (hl : l.length ≤ 100000) (hm : m.length ≤ 100000) (hA : DAt w A1 .i64 l) (hB : DAt w A2 .i64 m) (hDl : Dig 10 l) (hDm : Dig 10 m) :
    Calls Tryd.prog 25 #[.slice A1 l.length c1, .slice A2 m.length c2] w fun e w' => ∃ v, e = .returned v ∧ w'.ownsRow w.heap.size 3 1 v (digs 10 (val 10 l + val 10 m)).length (iv (digs 10 (val 10 l + val 10 m))) ∧ Below w.heap.size w w' := by
  have HA := Lib.hid hA
  have HB := Lib.hid hB
  have HDL := Lib.hid hDl
  have HDM := Lib.hid hDm
  clear hA hB hDl hDm
  obtain ⟨n, hn⟩ : ∃ n, n = l.length := ⟨_, rfl⟩
  obtain ⟨k0, hk0⟩ : ∃ k, k = m.length := ⟨_, rfl⟩
  rw [← hn] at hl ⊢
  rw [← hk0] at hm ⊢
  have HN := Lib.hid hn
  have HK := Lib.hid hk0
  clear hn hk0
  obtain ⟨M, hM⟩ : ∃ M, M = max n k0 := ⟨_, rfl⟩
  have hM1 : n ≤ M := by omega
  have hM2 : k0 ≤ M := by omega
  have hM3 : M ≤ 100000 := by omega
  have HMM := Lib.hid (show ∀ i, n ≤ i → k0 ≤ i → M ≤ i from fun i h1 h2 => by omega)
  clear hM
  go_enter Tryd.func25, Tryd.ntmps25
  go_wp2
  go_loopw [5, 6, 7] (fun so sc si wr => ∃ (i c : Nat) (D : List Nat) (v : Value), si = .int .i64 i ∧ sc = .int .i64 c ∧ v = so ∧ i ≤ M + 1 ∧ (i ≤ M ∨ c = 0) ∧ c ≤ 1 ∧ D.length = i ∧ Dig 10 D ∧ wr.ownsRow w.heap.size 3 1 v D.length (iv D) ∧ val 10 D + 10 ^ i * c = val 10 (l.take i) + val 10 (m.take i) ∧ Below w.heap.size w wr) (fun _ _ i _ => M + 1 - (intOf i).toNat)
  case atStart => exact ⟨0, 0, [], _, rfl, rfl, rfl, by omega, .inr rfl, by omega, rfl, (fun d hd => by cases hd), World.ownsRow_nil _ _ _ _, by simp [val], Below.refl _ _⟩
  case round =>
    obtain ⟨i, c, D, v, rfl, rfl, rfl, hi, hic, hc, hDl, hDd, how, hv, hbel⟩ := hrel
    have HBL := Lib.hid hbel
    have HDLEN := Lib.hid hDl
    have HDD := Lib.hid hDd
    have HV := Lib.hid hv
    have HLT := Lib.hid how.lt
    have HOW0 := Lib.hid how
    have hsz := hbel.size
    by_cases hgo : i < n ∨ i < k0 ∨ 0 < c
    · have hiM : i ≤ M := by omega
      obtain ⟨x, hx⟩ : ∃ x, x = l.getD i 0 := ⟨_, rfl⟩
      obtain ⟨y, hy⟩ : ∃ y, y = m.getD i 0 := ⟨_, rfl⟩
      have hxb : x < 10 := by rw [hx]; exact HDL.out.getD10 i
      have hyb : y < 10 := by rw [hy]; exact HDM.out.getD10 i
      have hat1 := at_any A1 c1 l i wr (by have := HN.out; omega) (by omega) (HA.out.belowB hbel rfl)
      have hat2 := at_any A2 c2 m i wr (by have := HK.out; omega) (by omega) (HB.out.belowB hbel rfl)
      rw [← HN.out, ← hx] at hat1
      rw [← HK.out, ← hy] at hat2
      have hxM : n ≤ i → x = 0 := fun h => by rw [hx]; simp [List.getD, List.getElem?_eq_none (show l.length ≤ i by have := HN.out; omega)]
      have hyM : k0 ≤ i → y = 0 := fun h => by rw [hy]; simp [List.getD, List.getElem?_eq_none (show m.length ≤ i by have := HK.out; omega)]
      have hnext : i + 1 ≤ M ∨ (c + x + y) / 10 = 0 := by
        by_cases h : i + 1 ≤ M
        · exact .inl h
        · right
          have h1 := hxM (by omega)
          have h2 := hyM (by omega)
          omega
      have hat1' := Lib.hid hat1
      have hat2' := Lib.hid hat2
      have HX := Lib.hid hx
      have HY := Lib.hid hy
      have HNXT := Lib.hid hnext
      have hdat : DAt (wr.alloc (.cells #[.int .i64 (((c : Int) + (x : Int) + (y : Int)) % 10)] 3)) (some ⟨wr.heap.size, 0, none⟩) .i64 [(c + x + y) % 10] := by
        rw [show (((c : Int) + (x : Int) + (y : Int)) % 10) = (((c + x + y) % 10 : Nat) : Int) from by omega]
        exact dat_new wr 3 .i64 [(c + x + y) % 10] _ rfl
      have HDAT := Lib.hid hdat
      have HOW := Lib.hid (how.alloc (.cells #[.int .i64 (((c : Int) + (x : Int) + (y : Int)) % 10)] 3))
      have hDb : D.length + 1 ≤ 10000000 := by omega
      clear hdat hat1 hat2 hx hy hxM hyM hnext how hv hDl hDd hbel hic
      have hi0 : (0 : Int) ≤ (i : Int) := by omega
      rcases (show i < n ∨ (¬ i < n ∧ i < k0) ∨ (¬ i < n ∧ ¬ i < k0 ∧ 0 < c) by omega) with h | ⟨h, h2⟩ | ⟨h, h2, h3⟩
      all_goals
        clear hgo
        go_wp2_with fail
        refine (hat1'.out).mono ?_
        rintro e w3 ⟨rfl, hw⟩
        rw [← hw]
        clear hw
        go_wp2_with fail
        refine (hat2'.out).mono ?_
        rintro e w3 ⟨rfl, hw⟩
        rw [← hw]
        clear hw
        go_wp2_with (with_reducible refine wpList_append_dat rfl _ _ _ _ rfl Tryd.underlying27 Tryd.underlying27 w.heap.size v D.length D rfl HOW.out _ 1 1 [(c + x + y) % 10] rfl rfl HDAT.out (fun h => by cases h) hDb (by simp; omega) ?_; intro v' w1 hown1 hgrow1)
        go_wp2
        go_roundw
        case rel =>
          rw [show (((c : Int) + (x : Int) + (y : Int)) / 10) = (((c + x + y) / 10 : Nat) : Int) from by omega]
          refine ⟨i + 1, (c + x + y) / 10, D ++ [(c + x + y) % 10], v', by go_num, rfl, rfl, by omega, HNXT.out, by omega, by rw [List.length_append, HDLEN.out]; rfl, dig_snoc HDD.out (Nat.mod_lt _ (by decide)), by rw [List.length_append]; exact hown1, ?_, (HBL.out.alloc hsz _).grown hgrow1 (by simp; omega) (fun q hq => (HLT.out q hq).1)⟩
          rw [val_snoc, take_getD, take_getD, HDLEN.out, ← HX.out, ← HY.out]
          exact add_dec HV.out
        case measure => first | (simp [intOf]; done) | (simp [intOf]; omega)
    · have h1 : ¬ i < n := by omega
      have h2 : ¬ i < k0 := by omega
      have hc0 : c = 0 := by omega
      have htl : l.take i = l := List.take_of_length_le (by have := HN.out; omega)
      have htm : m.take i = m := List.take_of_length_le (by have := HK.out; omega)
      rw [hc0, Nat.mul_zero, Nat.add_zero, htl, htm] at hv
      obtain ⟨A', c', hv2, hnil, hlc, hcm, hdat⟩ := dat_of_own how
      have hcut := cut_any A' c' D wr (by omega) hlc hcm hnil hdat hDd
      rw [hv] at hcut
      have HCUT := Lib.hid hcut
      have h3 : ¬ (0 : Int) < (c : Int) := by omega
      subst hv2
      clear hcut hv htl htm hnil hlc hcm hdat how hDd hDl hbel hic hgo hc0
      have h1' : ¬ (i : Int) < (n : Int) := by omega
      have h2' : ¬ (i : Int) < (k0 : Int) := by omega
      go_wp2_with fail
      refine (HCUT.out).mono ?_
      rintro e w3 ⟨v3, rfl, how3, hb3⟩
      have HOW3 := Lib.hid how3
      have HB3 := Lib.hid (HBL.out.trans (hb3.mono hsz))
      clear how3 hb3
      go_wp2
      go_ret
      exact ⟨_, rfl, own_base HOW3.out hsz, HB3.out⟩
end Go.Proofs.YtncdacafdfknnaaDoor
