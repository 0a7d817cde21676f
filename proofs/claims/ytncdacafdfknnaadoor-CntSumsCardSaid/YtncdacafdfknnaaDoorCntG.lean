/- Walk: Add. -/
import Derived.Test.YtncdacafdfknnaaDoorCntF
namespace Go.Proofs.YtncdacafdfknnaaDoor
open Go.RowKit
set_option linter.unusedVariables false

/-- A row of numbers lies at A. -/
def NatsAt (w : World) (A : Option Addr) (ls : List (List Nat)) : Prop := ls = [] ∨ ∃ g off, A = some ⟨g, off, none⟩ ∧ g < w.heap.size ∧ ∀ (j : Nat) (l : List Nat), ls[j]? = some l → ∃ (a : Option Addr) (c : Nat), l.length ≤ c ∧ c ≤ maxLen ∧ w.cell? ⟨g, off + j, none⟩ = some (.slice a l.length c) ∧ DAt w a .u32 l
theorem NatsAt.belowB {w w' : World} {B : Nat} {A : Option Addr} {ls : List (List Nat)} (h : NatsAt w A ls) (hb : Below B w w') (hB : B = w.heap.size) : NatsAt w' A ls := by
  rcases h with h | ⟨b, off, rfl, hlt, hc⟩
  · exact .inl h
  · refine .inr ⟨b, off, rfl, Nat.lt_of_lt_of_le hlt hb.size, fun j l hl => ?_⟩
    obtain ⟨a, c, h1, h2, h3, h4⟩ := hc j l hl
    exact ⟨a, c, h1, h2, by rw [hb.cell (p := ⟨b, _, none⟩) (by subst hB; exact hlt)]; exact h3, h4.belowB hb hB⟩

/-- The sum of the first ones. -/
def sumV (ls : List (List Nat)) : Nat := (ls.map (val B32)).sum
theorem sumV_snoc {ls : List (List Nat)} {k : Nat} {l : List Nat} (h : ls[k]? = some l) : sumV (ls.take (k + 1)) = sumV (ls.take k) + val B32 l := by
  obtain ⟨hj, rfl⟩ := List.getElem?_eq_some_iff.1 h
  rw [List.take_succ_eq_append_getElem hj]
  simp only [sumV, List.map_append, List.sum_append, List.map_cons, List.map_nil, List.sum_cons, List.sum_nil, Nat.add_zero]

theorem add_grow {B k P Y X z y x b c : Nat} (h : P + B ^ k * b = X + Y) (hs : z + B * c = x + y + b) : (P + B ^ k * z) + B ^ (k + 1) * c = (X + B ^ k * x) + (Y + B ^ k * y) := by
  have e : B ^ (k + 1) * c = B ^ k * (B * c) := by rw [Nat.pow_succ, Nat.mul_assoc]
  have h2 : B ^ k * (z + B * c) = B ^ k * (x + y + b) := by rw [hs]
  rw [Nat.mul_add, Nat.mul_add, Nat.mul_add] at h2
  rw [e]
  omega

/-- The inner loop's end: the digits of the sum. -/
theorem add_end {s v N b : Nat} {L : List Nat} (h : val B32 L + B32 ^ N * b = s + v) (hs : s < B32 ^ (N - 1)) (hv : v < B32 ^ (N - 1)) (hN : 0 < N) : b = 0 ∧ val B32 L = s + v := by
  have h1 : B32 ^ N = B32 ^ (N - 1) * 4294967296 := by
    obtain ⟨M, rfl⟩ : ∃ M, N = M + 1 := ⟨N - 1, by omega⟩
    rw [Nat.add_sub_cancel]
    exact Nat.pow_succ _ _
  have h2 : s + v < B32 ^ N := by rw [h1]; omega
  rcases Nat.eq_zero_or_pos b with h3 | h3
  · subst h3; simp at h; exact ⟨rfl, h⟩
  · have : B32 ^ N * 1 ≤ B32 ^ N * b := Nat.mul_le_mul_left _ h3
    omega

set_option maxRecDepth 100000 in
set_option maxHeartbeats 8000000 in
theorem add_any (A : Option Addr) (c0 : Nat) (ls : List (List Nat)) (w : World) (hl : ls.length ≤ 1000) (hA : NatsAt w A ls) (hD : ∀ l ∈ ls, Dig B32 l ∧ l.length ≤ 1000) :
    Calls Tryd.prog 27 #[.slice A ls.length c0] w fun e w' => ∃ A' c', e = .returned (.slice A' (digs B32 (sumV ls)).length c') ∧ (digs B32 (sumV ls)).length ≤ c' ∧ c' ≤ maxLen ∧ DAt w' A' .u32 (digs B32 (sumV ls)) ∧ Below w.heap.size w w' := by
  have HA := Lib.hid hA
  have HD := Lib.hid hD
  clear hA hD
  obtain ⟨n, hn⟩ : ∃ n, n = ls.length := ⟨_, rfl⟩
  rw [← hn] at hl ⊢
  have HN := Lib.hid hn
  clear hn
  go_enter Tryd.func27, Tryd.ntmps27
  go_wp2
  go_loopw [3, 12] (fun ss si wr => ∃ (k ns cs : Nat) (S : Option Addr), k ≤ n ∧ si = .int .i64 k ∧ ss = .slice S ns cs ∧ ns = (digs B32 (sumV (ls.take k))).length ∧ ns ≤ 1000 + k ∧ ns ≤ cs ∧ cs ≤ 1000000 ∧ DAt wr S .u32 (digs B32 (sumV (ls.take k))) ∧ Below w.heap.size w wr) (fun _ i _ => n - (intOf i).toNat)
  case atStart => exact ⟨0, 0, 0, none, Nat.zero_le _, rfl, rfl, rfl, by omega, by omega, by omega, .inl rfl, Below.refl _ _⟩
  case round =>
    obtain ⟨k, ns, cs, S, hk, rfl, rfl, hns, hns2, hcs, hcs2, hS, hbel⟩ := hrel
    obtain ⟨wo, rfl⟩ : ∃ wo : World, wo = wr := ⟨_, rfl⟩
    have HNS := Lib.hid hns
    have HS := Lib.hid hS
    have HB := Lib.hid hbel
    have hsz := hbel.size
    by_cases hlt : k < n
    · obtain ⟨l, hlk⟩ : ∃ l, ls[k]? = some l := ⟨_, List.getElem?_eq_getElem (by have := HN.out; omega)⟩
      obtain ⟨hDl, hl1⟩ := HD.out l (List.mem_of_getElem? hlk)
      rcases HA.out.belowB hbel rfl with h9 | ⟨g, off, rfl, hg, hcell⟩
      · rw [h9] at hlk; simp at hlk
      obtain ⟨a, ca, hca, hca2, hcl, hda⟩ := hcell k l hlk
      have HSM := Lib.hid (sumV_snoc hlk)
      obtain ⟨s, hs⟩ : ∃ s, s = sumV (ls.take k) := ⟨_, rfl⟩
      rw [← hs] at HNS HS HSM
      have HSS := Lib.hid hs
      obtain ⟨na, hna⟩ : ∃ na, na = l.length := ⟨_, rfl⟩
      rw [← hna] at hl1 hca hcl
      have HNA := Lib.hid hna
      have HDL := Lib.hid hDl
      have HDA := Lib.hid hda
      unfold maxLen at hca2
      clear hns hS hbel hlk hcell hs hna hDl hda
      have hk0 : (0 : Int) ≤ (k : Int) := by omega
      have hk1 : (k : Int) < (n : Int) := by omega
      have hNN : ∃ N, (N = ns + 1 ∨ N = na + 1) ∧ ns < N ∧ na < N ∧ N ≤ 1001 + k ∧ ((ns < na → N = na + 1) ∧ (¬ ns < na → N = ns + 1)) := by
        by_cases h : ns < na
        · exact ⟨na + 1, .inr rfl, by omega, by omega, by omega, fun _ => rfl, fun h2 => absurd h h2⟩
        · exact ⟨ns + 1, .inl rfl, by omega, by omega, by omega, fun h2 => absurd h2 h, fun _ => rfl⟩
      obtain ⟨N, _, hN1, hN2, hN3, hN4, hN5⟩ := hNN
      obtain ⟨W, hW⟩ : ∃ W, W = wo.alloc (.cells (madeCells #[.int .u32 0] N) 62) := ⟨_, rfl⟩
      have hmk0 := make_u32 N (by omega) wo
      rw [← hW] at hmk0
      have hR0 : Hid (Row W wo.heap.size 62 .u32 (List.replicate N 0)) := by rw [hW]; exact Row.made _ _ _ _
      have hB0 : Hid (Below wo.heap.size wo W) := by rw [hW]; exact (Below.refl _ _).alloc (Nat.le_refl _) _
      have HSW := Lib.hid (HS.out.belowB hB0.out rfl)
      have HDW := Lib.hid (HDA.out.belowB hB0.out rfl)
      clear hW
      by_cases hmx : ns < na
      all_goals
        first
          | (have hN6 := hN4 hmx
             have hmk : (Instr.makeSlice 23 (.int .i64 ((na : Int) + 1)) (.int .i64 ((na : Int) + 1))).run Tryd.prog wo = .ok (.slice (some ⟨wo.heap.size, 0, none⟩) N N) W := by
               rw [show ((na : Int) + 1) = (N : Int) from by omega]; exact hmk0
             have hmx' : (ns : Int) < (na : Int) := by omega)
          | (have hN6 := hN5 hmx
             have hmk : (Instr.makeSlice 23 (.int .i64 ((ns : Int) + 1)) (.int .i64 ((ns : Int) + 1))).run Tryd.prog wo = .ok (.slice (some ⟨wo.heap.size, 0, none⟩) N N) W := by
               rw [show ((ns : Int) + 1) = (N : Int) from by omega]; exact hmk0
             have hmx' : ¬ (ns : Int) < (na : Int) := by omega)
        clear hN6 hN4 hN5 hmk0 hmx
        go_wp2_with (with_reducible refine wpList_copy_row rfl _ _ rfl wo.heap.size 0 (List.replicate N 0) (digs B32 s) S N N ns cs rfl rfl hR0.out HSW.out HNS.out (by simp) (by have := HNS.out; omega) wo.heap.size wo hB0.out (Nat.le_refl _) ?_; intro w1 hrow1 hb1)
        rw [← HNS.out]
        have e0 : (List.replicate N 0).take 0 ++ digs B32 s ++ (List.replicate N 0).drop (0 + (digs B32 s).length) = digs B32 s ++ List.replicate (N - ns) 0 := by
          rw [← HNS.out]
          simp
        rw [e0] at hrow1
        obtain ⟨L0, hL0⟩ : ∃ L0, L0 = digs B32 s ++ List.replicate (N - ns) 0 := ⟨_, rfl⟩
        rw [← hL0] at hrow1
        have hL1 : L0.length = N := by rw [hL0, List.length_append, List.length_replicate, ← HNS.out]; omega
        have hL2 : val B32 L0 = s := by rw [hL0, val_append_zeros, val_digs (by decide)]
        have hL3 : Dig B32 L0 := by
          rw [hL0]
          intro x hx
          rcases List.mem_append.1 hx with hx | hx
          · exact dig_digs (by decide) s x hx
          · exact dig_replicate (by decide) _ x hx
        have HR1 := Lib.hid hrow1
        have HB1 := Lib.hid hb1
        have HL1 := Lib.hid hL1
        have HL2 := Lib.hid hL2
        have HL3 := Lib.hid hL3
        clear hrow1 hb1 e0 hL0 hL1 hL2 hL3
        go_wp2_with fail
        go_loopw [7, 28] (fun sc sj wr => ∃ (j b : Nat) (L : List Nat), j ≤ N ∧ sj = .int .i64 j ∧ sc = .int .u32 b ∧ b ≤ 1 ∧ L.length = N ∧ Row wr wo.heap.size 62 .u32 L ∧ Dig B32 L ∧ L.drop j = L0.drop j ∧ val B32 (L.take j) + B32 ^ j * b = val B32 (L0.take j) + val B32 (l.take j) ∧ Below wo.heap.size wo wr) (fun _ j _ => N - (intOf j).toNat)
        case atStart => exact ⟨0, 0, L0, Nat.zero_le _, rfl, rfl, by omega, HL1.out, HR1.out, HL3.out, rfl, by simp [val], HB1.out⟩
        case round =>
          obtain ⟨j, b, L, hj, rfl, rfl, hb1, hL, hrow, hdl, hdr, hv, hbel⟩ := hrel
          by_cases hjl : j < N
          · obtain ⟨x, hx⟩ := getE (l := L) (k := j) (by omega)
            have hxl : L0[j]? = some x := by
              have h9 := congrArg (·[0]?) hdr
              simp only [List.getElem?_drop, Nat.add_zero] at h9
              rw [← h9]; exact hx
            have y0 := hrow.cell hx
            have y1 := hrow.frozen j
            have hgl := hrow.lt
            have hxb : x < B32 := hdl.at_ hx
            have hyb := HDL.out.getD j
            have hYW := HDA.out.belowB hbel rfl
            obtain ⟨yk, hyk⟩ : ∃ yk, yk = l.getD j 0 := ⟨_, rfl⟩
            rw [← hyk] at hyb
            have HS2 := Lib.hid (fun W => add32_any x yk b W hxb hyb hb1)
            have hst : (x + yk + b) % B32 + B32 * ((x + yk + b) / B32) = x + yk + b := Nat.mod_add_div _ _
            have hzb : (x + yk + b) % B32 < B32 := Nat.mod_lt _ (by decide)
            have hcb : (x + yk + b) / B32 ≤ 1 := by
              have h1 : x + yk + b < 2 * B32 := by omega
              have h2 : (x + yk + b) / B32 < 2 := by rw [Nat.div_lt_iff_lt_mul (by decide)]; exact h1
              omega
            generalize (x + yk + b) % B32 = z at *
            generalize (x + yk + b) / B32 = b2 at *
            have HROW := Lib.hid hrow
            have HDL2 := Lib.hid hdl
            have HV := Lib.hid hv
            have HDR := Lib.hid hdr
            have HL := Lib.hid hL
            have HX := Lib.hid hx
            have HXL := Lib.hid hxl
            have HBI := Lib.hid hbel
            have HST := Lib.hid hst
            have HYK := Lib.hid hyk
            have HZB := Lib.hid hzb
            have hj0 : (0 : Int) ≤ (j : Int) := by omega
            have hj1 : (j : Int) < (N : Int) := by omega
            by_cases hky : j < na
            · have hyc : l[j]? = some yk := by
                rw [hyk]
                obtain ⟨d9, hd9⟩ := getE (l := l) (k := j) (by have := HNA.out; omega)
                simp [List.getD, hd9]
              rcases hYW with h9 | ⟨g3, off3, rfl, hg3, hcell⟩
              · rw [h9] at hyc; simp at hyc
              have x0 := hcell _ _ hyc
              have HS3 := HS2
              clear hcell hyc hrow hdl hdr hv hL hx hxl hbel hst hyk hzb hxb hyb hb1
              have hky' : (j : Int) < (na : Int) := by omega
              go_wp2_with fail
              refine (HS3.out _).mono ?_
              rintro e w3 ⟨rfl, hw⟩
              rw [← hw]
              clear hw
              go_wp2_with fail
              go_roundw
              case rel =>
                refine ⟨j + 1, b2, L.set j z, by omega, by go_num, rfl, hcb, by rw [List.length_set]; exact HL.out, HROW.out.set_ _ _, HDL2.out.set_ _ HZB.out, ?_, ?_, HBI.out.setCell (p := ⟨wo.heap.size, j, none⟩) (Nat.le_refl _) _⟩
                · rw [List.drop_set_of_lt (by omega)]
                  have h9 := congrArg (List.drop 1) HDR.out
                  simpa [List.drop_drop] using h9
                · rw [set_take (by have := HL.out; omega), take_snoc HXL.out, val_snoc, val_snoc, take_getD, List.length_take, List.length_take, Nat.min_eq_left (by have := HL.out; omega), Nat.min_eq_left (by have := HL1.out; omega), ← HYK.out]
                  exact add_grow HV.out HST.out
              case measure => first | (simp [intOf]; done) | (simp [intOf]; omega)
            · have hy0 : yk = 0 := by rw [hyk]; simp [List.getD, List.getElem?_eq_none (show l.length ≤ j by have := HNA.out; omega)]
              have hs0 : ∀ W, Calls Tryd.prog 40 #[.int .u32 (x : Nat), .int .u32 0, .int .u32 (b : Nat)] W fun e w' => e = .returned (.tuple #[.int .u32 (z : Nat), .int .u32 (b2 : Nat)]) ∧ W = w' := by
                have h9 := HS2.out
                rw [hy0] at h9
                exact h9
              have HS3 := Lib.hid hs0
              clear hs0 hy0 hYW hrow hdl hdr hv hL hx hxl hbel hst hyk hzb hxb hyb hb1
              have hky' : ¬ (j : Int) < (na : Int) := by omega
              go_wp2_with fail
              refine (HS3.out _).mono ?_
              rintro e w3 ⟨rfl, hw⟩
              rw [← hw]
              clear hw
              go_wp2_with fail
              go_roundw
              case rel =>
                refine ⟨j + 1, b2, L.set j z, by omega, by go_num, rfl, hcb, by rw [List.length_set]; exact HL.out, HROW.out.set_ _ _, HDL2.out.set_ _ HZB.out, ?_, ?_, HBI.out.setCell (p := ⟨wo.heap.size, j, none⟩) (Nat.le_refl _) _⟩
                · rw [List.drop_set_of_lt (by omega)]
                  have h9 := congrArg (List.drop 1) HDR.out
                  simpa [List.drop_drop] using h9
                · rw [set_take (by have := HL.out; omega), take_snoc HXL.out, val_snoc, val_snoc, take_getD, List.length_take, List.length_take, Nat.min_eq_left (by have := HL.out; omega), Nat.min_eq_left (by have := HL1.out; omega), ← HYK.out]
                  exact add_grow HV.out HST.out
              case measure => first | (simp [intOf]; done) | (simp [intOf]; omega)
          · have hjn : j = N := by omega
            subst hjn
            have htk : L.take j = L := List.take_of_length_le (by omega)
            have htl : L0.take j = L0 := List.take_of_length_le (by have := HL1.out; omega)
            have hty : l.take j = l := List.take_of_length_le (by have := HNA.out; omega)
            rw [htk, htl, hty, HL2.out] at hv
            have hs9 : s < B32 ^ (j - 1) := Nat.lt_of_lt_of_le (lt_digs_len (b := B32) (by decide) s) (Nat.pow_le_pow_right (by decide) (by have := HNS.out; omega))
            have hv9 : val B32 l < B32 ^ (j - 1) := Nat.lt_of_lt_of_le (val_lt (b := B32) (by decide) HDL.out) (Nat.pow_le_pow_right (by decide) (by have := HNA.out; omega))
            obtain ⟨hb0, hvv⟩ := add_end hv hs9 hv9 (by omega)
            have ht := trim_any (some ⟨wo.heap.size, 0, none⟩) j L wr (by omega) (by omega) (by unfold maxLen; omega) hrow.dat hdl
            have hda := dat_digs (by decide) hdl hrow.dat
            have hdn := digs_len_le (b := B32) (by decide) hdl
            rw [hL] at ht hdn
            rw [hvv, ← HSM.out] at ht hda hdn
            have HT2 := Lib.hid ht
            have HDA2 := Lib.hid hda
            have HBI := Lib.hid hbel
            clear htk htl hty hv hs9 hv9 hb0 hvv hrow hdl hdr hL hbel ht hda
            have hj1 : ¬ (j : Int) < (j : Int) := by omega
            go_wp2_with fail
            refine (HT2.out).mono ?_
            rintro e1 w2 ⟨rfl, hw⟩
            rw [← hw]
            clear hw
            go_wp2_with fail
            go_roundw
            case rel => exact ⟨k + 1, _, _, _, by omega, by go_num, rfl, rfl, by omega, Nat.le_refl _, by omega, HDA2.out, HB.out.trans (HBI.out.mono hsz)⟩
            case measure => first | (simp [intOf]; done) | (simp [intOf]; omega)
    · have hkn : k = n := by omega
      subst hkn
      have htl : ls.take k = ls := List.take_of_length_le (by have := HN.out; omega)
      rw [htl] at HNS HS
      have hk1 : ¬ (k : Int) < (k : Int) := by omega
      clear htl hns hS hbel
      go_wp2
      go_ret
      rw [← HNS.out]
      exact ⟨_, _, rfl, hcs, by unfold maxLen; omega, HS.out, HB.out⟩
end Go.Proofs.YtncdacafdfknnaaDoor
