/- Walk of the reference: Parse. -/
import Derived.Test.YtncdacafdfknnaaDoorCnt2
namespace Go.Proofs.YtncdacafdfknnaaDoor
open Go.RowKit
set_option linter.unusedVariables false

/-- The digits of a text, the last one first. -/
def revD (l : Bs) : List Nat := l.reverse.map fun c => c.toNat - 48
theorem revD_len (l : Bs) : (revD l).length = l.length := by simp [revD]
theorem revD_cons (c : UInt8) (l : Bs) : revD (c :: l) = revD l ++ [c.toNat - 48] := by simp [revD]
theorem decV_append (l : Bs) (c : UInt8) : decV (l ++ [c]) = 10 * decV l + (c.toNat - 48) := decV_snoc l c
theorem val_revD : ∀ (k : Nat) (l : Bs), l.length = k → val 10 (revD l) = decV l
  | 0, l, h => by rw [List.eq_nil_of_length_eq_zero h]; rfl
  | k + 1, l, h => by
    obtain ⟨m, c, rfl⟩ : ∃ m c, l = m ++ [c] := ⟨l.dropLast, l.getLast (by intro h0; rw [h0] at h; simp at h), (List.dropLast_concat_getLast _).symm⟩
    have hm : m.length = k := by simpa using h
    have e : revD (m ++ [c]) = (c.toNat - 48) :: revD m := by simp [revD]
    rw [e, val, val_revD k m hm, decV_snoc, Nat.add_comm]
theorem dig_revD {l : Bs} (h : ∀ c ∈ l, isDg c = true) : Dig 10 (revD l) := by
  intro d hd
  unfold revD at hd
  obtain ⟨c, hc, rfl⟩ := List.mem_map.1 hd
  have := h c (List.mem_reverse.1 hc)
  unfold isDg at this
  simp at this
  omega

set_option maxRecDepth 100000 in
set_option maxHeartbeats 4000000 in
theorem rparse_num (s : ByteArray) (w : World) (hs : s.size ≤ maxLen) :
    Calls Tryd.prog 11 #[.string s] w fun e w' => ∃ A m c, e = .returned (.tuple #[.slice A m c, .int .i64 (parseS (bs s)).2]) ∧ NumAt w' A m c (parseS (bs s)).1 ∧ m ≤ 2000 ∧ Below w.heap.size w w' := by
  unfold maxLen at hs
  have hlen := bs_length s
  have N0 : ∀ W, NumAt W none 0 0 0 := fun W => ⟨rfl, fun _ => rfl, Nat.le_refl _, Nat.zero_le _, .inl rfl⟩
  have HN0 := Lib.hid N0
  clear N0
  by_cases h1 : 2000 < s.size
  · have h1' : (2000 : Int) < (s.size : Int) := by omega
    have HV := Lib.hid (show parseS (bs s) = (0, 4) from if_pos (by rw [hlen]; exact h1))
    clear hlen h1
    go_enter Tryd.func11, Tryd.ntmps11
    go_wp2
    go_ret2
    rw [HV.out]
    exact ⟨_, _, _, rfl, HN0.out _, Nat.zero_le _, Below.refl _ _⟩
  · have h1' : ¬ (2000 : Int) < (s.size : Int) := by omega
    by_cases h0 : 0 < s.size
    · have hne := bs_ne h0
      have hg0 := bs_get h0
      by_cases hz : s[0].toNat = 48 ∧ 1 < s.size
      · have HV := Lib.hid (show parseS (bs s) = (0, 3) from by
          unfold parseS
          rw [if_neg (by omega), if_pos (.inr ⟨by rw [hg0]; simp [hz.1], by omega⟩)])
        have hz1 : ((s[0].toNat : Int) == 48) = true := by simp; omega
        have hz2 : (s.toList == [48]) = false := by
          rw [ByteArray.toList_eq]
          apply beq_eq_false_iff_ne.2
          intro h
          have := congrArg List.length h
          unfold bs at hlen
          rw [hlen] at this
          simp at this
          omega
        clear hlen hg0 hz
        go_enter Tryd.func11, Tryd.ntmps11
        go_wp2
        go_ret2
        rw [HV.out]
        exact ⟨_, _, _, rfl, HN0.out _, Nat.zero_le _, Below.refl _ _⟩
      · have HPS := Lib.hid (show parseS (bs s) = if (bs s).all isDg then (decV (bs s), 0) else (0, 3) from by
          unfold parseS
          rw [if_neg (by omega), if_neg]
          rintro (h | ⟨h, h2⟩)
          · omega
          · rw [hg0] at h
            simp at h
            exact hz ⟨h, by omega⟩)
        have hzz : ((s[0].toNat : Int) == 48) = false ∨ (((s[0].toNat : Int) == 48) = true ∧ (s.toList == [48]) = true) := by
          by_cases h : s[0].toNat = 48
          · refine .inr ⟨by simp; omega, ?_⟩
            have h3 : bs s = [48] := by
              have h4 : (bs s).length = 1 := by omega
              cases hb : bs s with
              | nil => rw [hb] at h4; simp at h4
              | cons c r =>
                rw [hb] at h4 hg0
                simp at h4 hg0
                rw [h4]
                congr 1
                apply UInt8.toNat_inj.1
                rw [hg0]
                exact h
            rw [ByteArray.toList_eq]
            unfold bs at h3
            rw [h3]
            rfl
          · exact .inl (by simp; omega)
        have HLEN := Lib.hid hlen
        clear hlen hg0 hz
        rcases hzz with hz1 | ⟨hz1, hz2⟩
        all_goals
          go_enter Tryd.func11, Tryd.ntmps11
          go_wp2_with fail
          clear hz1
          go_loopw [4, 5] (fun so si wr => ∃ (i : Int) (k : Nat) (v : Value), -1 ≤ i ∧ i < s.size ∧ (k : Int) = i + 1 ∧ si = .int .i64 i ∧ v = so ∧ wr.ownsRow w.heap.size 3 1 v (revD ((bs s).drop k)).length (iv (revD ((bs s).drop k))) ∧ (∀ x ∈ (bs s).drop k, isDg x = true) ∧ Below w.heap.size w wr) (fun _ i _ => (intOf i + 1).toNat)
          case atStart =>
            have e : (bs s).drop s.size = [] := List.drop_eq_nil_of_le (by have := HLEN.out; omega)
            exact ⟨(s.size : Int) - 1, s.size, _, by omega, by omega, by omega, rfl, rfl, by rw [e]; exact World.ownsRow_nil _ _ _ _, by rw [e]; simp, Below.refl _ _⟩
          case round =>
            obtain ⟨i, k, v, hi1, hi2, hk, rfl, rfl, how, hall, hbel⟩ := hrel
            have HALL := Lib.hid hall
            have HB := Lib.hid hbel
            have HOW := Lib.hid how
            have hsz := hbel.size
            clear hall hbel how
            by_cases hge : 0 ≤ i
            · obtain ⟨p, rfl⟩ : ∃ p : Nat, i = p := ⟨i.toNat, by omega⟩
              have hkp : k = p + 1 := by omega
              subst hkp
              have hlt : p < s.size := by omega
              have hgk := bs_get hlt
              have hdr : (bs s).drop p = s[p] :: (bs s).drop (p + 1) := by
                obtain ⟨hj, hj2⟩ := List.getElem?_eq_some_iff.1 hgk
                rw [List.drop_eq_getElem_cons hj, hj2]
              have hb : s[p].toNat < 256 := s[p].toNat_lt
              have hp0 : (0 : Int) ≤ (p : Int) := by omega
              have hp1 : (p : Int) < (s.size : Int) := by omega
              cases hdg : isDg s[p]
              · have HV := Lib.hid (show parseS (bs s) = (0, 3) from by
                  rw [HPS.out, if_neg]
                  intro h
                  have := List.all_eq_true.1 h s[p] (List.mem_of_getElem? hgk)
                  rw [hdg] at this
                  cases this)
                have hor : s[p].toNat < 48 ∨ (¬ s[p].toNat < 48 ∧ 57 < s[p].toNat) := by
                  unfold isDg at hdg
                  simp at hdg
                  omega
                clear hdg hdr hgk hk
                rcases hor with h | ⟨h, h2⟩
                all_goals
                  go_wp2
                  go_ret2
                  rw [HV.out]
                  exact ⟨_, _, _, rfl, HN0.out _, Nat.zero_le _, HB.out⟩
              · have hdd : 48 ≤ s[p].toNat ∧ s[p].toNat ≤ 57 := by unfold isDg at hdg; simp at hdg; omega
                obtain ⟨d1, d2⟩ := hdd
                have hall2 : ∀ x ∈ (bs s).drop p, isDg x = true := by
                  rw [hdr]
                  intro x hx
                  rcases List.mem_cons.1 hx with rfl | hx
                  · exact hdg
                  · exact HALL.out x hx
                have hrd : revD ((bs s).drop p) = revD ((bs s).drop (p + 1)) ++ [s[p].toNat - 48] := by rw [hdr, revD_cons]
                have hdat : DAt (wr.alloc (.cells #[.int .i64 ((s[p].toNat : Int) - 48)] 3)) (some ⟨wr.heap.size, 0, none⟩) .i64 [s[p].toNat - 48] := by
                  rw [show ((s[p].toNat : Int) - 48) = ((s[p].toNat - 48 : Nat) : Int) from by omega]
                  exact dat_new wr 3 .i64 [s[p].toNat - 48] _ rfl
                have HDAT := Lib.hid hdat
                have HOW2 := Lib.hid (HOW.out.alloc (.cells #[.int .i64 ((s[p].toNat : Int) - 48)] 3))
                have HALL2 := Lib.hid hall2
                have HRD := Lib.hid hrd
                have HLT := Lib.hid HOW.out.lt
                have hrl : (revD ((bs s).drop (p + 1))).length ≤ 2000 := by rw [revD_len, List.length_drop]; have := HLEN.out; omega
                clear hdg hdr hgk hall2 hrd hdat hk
                go_wp2_with (with_reducible refine wpList_append_dat rfl _ _ _ _ rfl Tryd.underlying27 Tryd.underlying27 w.heap.size v _ (revD ((bs s).drop (p + 1))) rfl HOW2.out _ 1 1 [s[p].toNat - 48] rfl rfl HDAT.out (fun h => by cases h) (by omega) (by simp; omega) ?_; intro v' w1 hown1 hgrow1)
                go_wp2_with fail
                go_roundw
                case rel => exact ⟨(p : Int) - 1, p, v', by omega, by omega, by omega, rfl, rfl, by rw [HRD.out, List.length_append]; exact hown1, HALL2.out, (HB.out.alloc hsz _).grown hgrow1 (by simp; omega) (fun q hq => (HLT.out q hq).1)⟩
                case measure => first | (simp [intOf]; done) | (simp [intOf]; omega)
            · have hk0 : k = 0 := by omega
              subst hk0
              have hi : i = -1 := by omega
              subst hi
              have hall := HALL.out
              have how := HOW.out
              rw [List.drop_zero] at hall how
              have HV := Lib.hid (show parseS (bs s) = (decV (bs s), 0) from by rw [HPS.out, if_pos (List.all_eq_true.2 hall)])
              obtain ⟨A, c, rfl, c1, c2, c3, c4⟩ := dat_of_own how
              have hcut := cut_any A c (revD (bs s)) wr (by rw [revD_len]; have := HLEN.out; omega) c2 c3 c1 c4 (dig_revD hall)
              rw [val_revD _ _ rfl] at hcut
              have hsm : (digs 10 (decV (bs s))).length ≤ 2000 := by
                have h1 := digs_len (b := 10) (by decide) _ _ (decV_lt _ (bs s) rfl hall)
                have := HLEN.out
                omega
              have HSM := Lib.hid hsm
              have HC := Lib.hid hcut
              clear hall how c1 c2 c3 c4 hcut hsm hk
              go_wp2_with fail
              refine (HC.out).mono ?_
              rintro e w2 ⟨v2, rfl, ho2, hb2⟩
              obtain ⟨A2, m2, c2, rfl, hn2⟩ := num_of_own ho2
              have HN2 := Lib.hid hn2
              have HB2 := Lib.hid (HB.out.trans (hb2.mono hsz))
              clear hn2 ho2 hb2
              go_wp2
              go_ret2
              rw [HV.out]
              exact ⟨_, _, _, rfl, HN2.out, by rw [HN2.out.len]; exact HSM.out, HB2.out⟩
    · have hte : s = ⟨#[]⟩ := by
        have hz : s.data.toList = [] := List.eq_nil_of_length_eq_zero (by have := hlen; unfold bs at this; omega)
        cases s
        simp at hz
        subst hz
        rfl
      have HV := Lib.hid (show parseS (bs s) = (0, 3) from by rw [hte]; rfl)
      subst hte
      clear hlen h0 hs h1 h1'
      go_enter Tryd.func11, Tryd.ntmps11
      go_wp2
      go_ret2
      rw [HV.out]
      exact ⟨_, _, _, rfl, HN0.out _, Nat.zero_le _, Below.refl _ _⟩
end Go.Proofs.YtncdacafdfknnaaDoor
