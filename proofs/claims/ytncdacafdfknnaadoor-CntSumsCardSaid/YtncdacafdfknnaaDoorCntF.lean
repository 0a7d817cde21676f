/- Walk: Sub. -/
import Derived.Test.YtncdacafdfknnaaDoorCntE
namespace Go.Proofs.YtncdacafdfknnaaDoor
open Go.RowKit
set_option linter.unusedVariables false

theorem DAt.drewN {w : World} {A : Option Addr} {k : IntKind} {l : List Nat} (h : DAt w A k l) (n : Nat) : DAt (w.drewN n) A k l := h.belowB (bdrewN (Below.refl _ _) n) rfl
theorem sub_step {x y b z : Nat} (hx : x < B32) (hy : y < B32) (hb : b ≤ 1) : (x + B32 - y - b) % B32 + y + b = x + B32 * (if x < y + b then 1 else 0) := by
  unfold B32 at *
  split <;> omega
theorem take_getD (b : Nat) (l : List Nat) (k : Nat) : val b (l.take (k + 1)) = val b (l.take k) + b ^ k * l.getD k 0 := by
  rcases Nat.lt_or_ge k l.length with h | h
  · obtain ⟨d, hd⟩ := getE h
    rw [take_snoc hd, val_snoc, List.length_take, Nat.min_eq_left (by omega)]
    simp [List.getD, hd]
  · rw [List.take_of_length_le (by omega), List.take_of_length_le h]
    simp [List.getD, List.getElem?_eq_none h]
theorem Dig.getD {l : List Nat} (h : Dig B32 l) (k : Nat) : l.getD k 0 < B32 := by
  rcases Nat.lt_or_ge k l.length with h1 | h1
  · obtain ⟨d, hd⟩ := getE h1
    simp only [List.getD, hd, Option.getD_some]
    exact h.at_ hd
  · simp [List.getD, List.getElem?_eq_none h1]
theorem sub_grow {B k P Y X z y x b c : Nat} (h : P + Y = X + B ^ k * b) (hs : z + y + b = x + B * c) : (P + B ^ k * z) + (Y + B ^ k * y) = (X + B ^ k * x) + B ^ (k + 1) * c := by
  have e : B ^ (k + 1) * c = B ^ k * (B * c) := by rw [Nat.pow_succ, Nat.mul_assoc]
  have h2 : B ^ k * (z + y + b) = B ^ k * (x + B * c) := by rw [hs]
  rw [Nat.mul_add, Nat.mul_add, Nat.mul_add] at h2
  rw [e]
  omega

set_option maxRecDepth 100000 in
set_option maxHeartbeats 4000000 in
theorem sub_any (A B : Option Addr) (c d : Nat) (l m : List Nat) (w : World) (hl : l.length ≤ 500000) (hm : m.length ≤ 500000) (hc : l.length ≤ c) (hd : m.length ≤ d) (hc2 : c ≤ maxLen) (hd2 : d ≤ maxLen)
    (hA : DAt w A .u32 l) (hB : DAt w B .u32 m) (hDl : Dig B32 l) (hDm : Dig B32 m) :
    Calls Tryd.prog 26 #[.slice A l.length c, .slice B m.length d] w fun e w' => ∃ A', e = .returned (.tuple #[.slice A' (digs B32 (val B32 l - val B32 m)).length (digs B32 (val B32 l - val B32 m)).length, .bool (decide (val B32 m ≤ val B32 l))]) ∧ DAt w' A' .u32 (digs B32 (val B32 l - val B32 m)) ∧ Below w.heap.size w w' := by
  have HC := Lib.hid (cmp_any A B c d l m w (by omega) (by omega) hc hd hc2 hd2 hA hB hDl hDm)
  by_cases hlt : val B32 l < val B32 m
  · rw [cmpI_lt hlt] at HC
    have h0 : val B32 l - val B32 m = 0 := by omega
    rw [h0, decide_eq_false (by omega)]
    clear h0 hlt hA hB hDl hDm
    go_enter Tryd.func26, Tryd.ntmps26
    go_wp2_with fail
    refine (HC.out).mono ?_
    rintro e w1 ⟨rfl, q, rfl⟩
    go_wp2
    go_ret2
    exact ⟨_, rfl, .inl rfl, bdrewN (Below.refl _ _) _⟩
  · have hge : val B32 m ≤ val B32 l := by omega
    rw [decide_eq_true hge]
    have hcm : cmpI (val B32 l) (val B32 m) = 0 ∨ cmpI (val B32 l) (val B32 m) = 1 := by
      rcases Nat.lt_or_ge (val B32 m) (val B32 l) with h | h
      · exact .inr (cmpI_gt h)
      · exact .inl (cmpI_eq (by omega))
    have hT := fun q => trim_any B d m (w.drewN q) (by omega) hd hd2 (hB.drewN q) hDm
    have hY := dat_digs (by decide) hDm hB
    have hgy := dig_digs (b := B32) (by decide) (val B32 m)
    have hvy := val_digs (b := B32) (by decide) (val B32 m)
    have hly : (digs B32 (val B32 m)).length ≤ l.length := digs_len (by decide) _ _ (Nat.lt_of_le_of_lt hge (val_lt (by decide) hDl))
    generalize val B32 m = y at *
    generalize digs B32 y = ys at *
    obtain ⟨ny, hny⟩ : ∃ k, k = ys.length := ⟨_, rfl⟩
    rw [← hny] at hT hly
    obtain ⟨n, hn⟩ : ∃ n, n = l.length := ⟨_, rfl⟩
    rw [← hn] at hl hc HC hly ⊢
    have HN := Lib.hid hn
    have HNY := Lib.hid hny
    have HT := Lib.hid hT
    have HY := Lib.hid hY
    have HGY := Lib.hid hgy
    have HVY := Lib.hid hvy
    have HA := Lib.hid hA
    have HD := Lib.hid hDl
    have HGE := Lib.hid hge
    clear hn hny hT hY hgy hvy hA hB hDl hDm hlt hge
    obtain ⟨cm, hcm1, hcm2⟩ : ∃ cm : Int, cmpI (val B32 l) y = cm ∧ 0 ≤ cm := by
      rcases hcm with h | h
      · exact ⟨_, h, by omega⟩
      · exact ⟨_, h, by omega⟩
    rw [hcm1] at HC
    clear hcm hcm1
    have HMK := Lib.hid (make_u32 n (by omega))
    go_enter Tryd.func26, Tryd.ntmps26
    go_wp2_with fail
    refine (HC.out).mono ?_
    rintro e w1 ⟨rfl, q, rfl⟩
    go_wp2_with fail
    refine (HT.out q).mono ?_
    rintro e w1 ⟨rfl, hw⟩
    rw [← hw]
    clear hw
    obtain ⟨W, hW⟩ : ∃ W, W = (w.drewN q).alloc (.cells (madeCells #[.int .u32 0] n) 62) := ⟨_, rfl⟩
    have hmkw := HMK.out (w.drewN q)
    rw [← hW, World.heap_drewN] at hmkw
    have hR0 : Hid (Row W w.heap.size 62 .u32 (List.replicate n 0)) := by rw [hW]; exact Row.made (w.drewN q) _ _ _
    have hB0 : Hid (Below w.heap.size w W) := by rw [hW]; exact (bdrewN (Below.refl _ _) q).alloc (by rw [World.heap_drewN]; exact Nat.le_refl _) _
    clear hW
    have HAW := Lib.hid (HA.out.belowB hB0.out rfl)
    have HYW := Lib.hid (HY.out.belowB hB0.out rfl)
    go_wp2_with (with_reducible refine wpList_copy_row rfl _ _ rfl w.heap.size 0 (List.replicate n 0) l A n n n c rfl rfl hR0.out HAW.out HN.out (by simp) (by have := HN.out; omega) w.heap.size w hB0.out (Nat.le_refl _) ?_; intro w1 hrow1 hb1)
    rw [← HN.out]
    have hrow2 : Row w1 w.heap.size 62 .u32 l := by
      have e : (List.replicate n 0).take 0 ++ l ++ (List.replicate n 0).drop (0 + l.length) = l := by
        rw [List.drop_eq_nil_of_le (by simp; have := HN.out; omega)]
        simp
      rw [e] at hrow1
      exact hrow1
    have HR1 := Lib.hid hrow2
    have HB1 := Lib.hid hb1
    clear hrow1 hrow2 hb1 hmkw
    go_wp2_with fail
    go_loopw [7, 24] (fun sc si wr => ∃ (k b : Nat) (L : List Nat), k ≤ n ∧ si = .int .i64 k ∧ sc = .int .u32 b ∧ b ≤ 1 ∧ L.length = n ∧ Row wr w.heap.size 62 .u32 L ∧ Dig B32 L ∧ L.drop k = l.drop k ∧ val B32 (L.take k) + val B32 (ys.take k) = val B32 (l.take k) + B32 ^ k * b ∧ Below w.heap.size w wr) (fun _ i _ => n - (intOf i).toNat)
    case atStart => exact ⟨0, 0, l, Nat.zero_le _, rfl, rfl, by omega, HN.out.symm, HR1.out, HD.out, rfl, by simp [val], HB1.out⟩
    case round =>
      obtain ⟨k, b, L, hk, rfl, rfl, hb1, hL, hrow, hdl, hdr, hv, hbel⟩ := hrel
      by_cases hlt : k < n
      · obtain ⟨x, hx⟩ := getE (l := L) (k := k) (by omega)
        have hxl : l[k]? = some x := by
          have h9 := congrArg (·[0]?) hdr
          simp only [List.getElem?_drop, Nat.add_zero] at h9
          rw [← h9]; exact hx
        have y0 := hrow.cell hx
        have y1 := hrow.frozen k
        have hgl := hrow.lt
        have hxb : x < B32 := hdl.at_ hx
        have hyb := HGY.out.getD k
        have hYW := HY.out.belowB hbel rfl
        obtain ⟨yk, hyk⟩ : ∃ yk, yk = ys.getD k 0 := ⟨_, rfl⟩
        rw [← hyk] at hyb
        have HS := Lib.hid (fun W => sub32_any x yk b W hxb hyb hb1)
        have hst := sub_step (z := 0) hxb hyb hb1
        have hzb : (x + B32 - yk - b) % B32 < B32 := Nat.mod_lt _ (by decide)
        have hcb : (if x < yk + b then 1 else 0) ≤ 1 := by split <;> omega
        generalize (x + B32 - yk - b) % B32 = z at *
        generalize (if x < yk + b then 1 else 0 : Nat) = b2 at *
        have HROW := Lib.hid hrow
        have HDL := Lib.hid hdl
        have HV := Lib.hid hv
        have HDR := Lib.hid hdr
        have HL := Lib.hid hL
        have HX := Lib.hid hx
        have HXL := Lib.hid hxl
        have HB := Lib.hid hbel
        have HST := Lib.hid hst
        have HYK := Lib.hid hyk
        have HZB := Lib.hid hzb
        have hj0 : (0 : Int) ≤ (k : Int) := by omega
        have hj1 : (k : Int) < (n : Int) := by omega
        by_cases hky : k < ny
        · have hyc : ys[k]? = some yk := by
            rw [hyk]
            obtain ⟨d9, hd9⟩ := getE (l := ys) (k := k) (by have := HNY.out; omega)
            simp [List.getD, hd9]
          rcases hYW with h9 | ⟨g, off, rfl, hg, hcell⟩
          · rw [h9] at hyc; simp at hyc
          have x0 := hcell _ _ hyc
          clear hcell hyc hrow hdl hdr hv hL hx hxl hbel hst hyk hzb hxb hyb hb1
          have hky' : (k : Int) < (ny : Int) := by omega
          go_wp2_with fail
          refine (HS.out _).mono ?_
          rintro e w3 ⟨rfl, hw⟩
          rw [← hw]
          clear hw
          go_wp2_with fail
          go_roundw
          case rel =>
            refine ⟨k + 1, b2, L.set k z, by omega, by go_num, rfl, hcb, by rw [List.length_set]; exact HL.out, HROW.out.set_ _ _, HDL.out.set_ _ HZB.out, ?_, ?_, HB.out.setCell (p := ⟨w.heap.size, k, none⟩) (Nat.le_refl _) _⟩
            · rw [List.drop_set_of_lt (by omega)]
              have h9 := congrArg (List.drop 1) HDR.out
              simpa [List.drop_drop] using h9
            · rw [set_take (by have := HL.out; omega), take_snoc HXL.out, val_snoc, val_snoc, take_getD, List.length_take, List.length_take, Nat.min_eq_left (by have := HL.out; omega), Nat.min_eq_left (by have := HN.out; omega), ← HYK.out]
              exact sub_grow HV.out HST.out
          case measure => first | (simp [intOf]; done) | (simp [intOf]; omega)
        · have hy0 : yk = 0 := by rw [hyk]; simp [List.getD, List.getElem?_eq_none (show ys.length ≤ k by have := HNY.out; omega)]
          have hs0 : ∀ W, Calls Tryd.prog 39 #[.int .u32 (x : Nat), .int .u32 0, .int .u32 (b : Nat)] W fun e w' => e = .returned (.tuple #[.int .u32 (z : Nat), .int .u32 (b2 : Nat)]) ∧ W = w' := by
            have h9 := HS.out
            rw [hy0] at h9
            exact h9
          have HS0 := Lib.hid hs0
          clear hs0 hy0 hYW hrow hdl hdr hv hL hx hxl hbel hst hyk hzb hxb hyb hb1
          have hky' : ¬ (k : Int) < (ny : Int) := by omega
          go_wp2_with fail
          refine (HS0.out _).mono ?_
          rintro e w3 ⟨rfl, hw⟩
          rw [← hw]
          clear hw
          go_wp2_with fail
          go_roundw
          case rel =>
            refine ⟨k + 1, b2, L.set k z, by omega, by go_num, rfl, hcb, by rw [List.length_set]; exact HL.out, HROW.out.set_ _ _, HDL.out.set_ _ HZB.out, ?_, ?_, HB.out.setCell (p := ⟨w.heap.size, k, none⟩) (Nat.le_refl _) _⟩
            · rw [List.drop_set_of_lt (by omega)]
              have h9 := congrArg (List.drop 1) HDR.out
              simpa [List.drop_drop] using h9
            · rw [set_take (by have := HL.out; omega), take_snoc HXL.out, val_snoc, val_snoc, take_getD, List.length_take, List.length_take, Nat.min_eq_left (by have := HL.out; omega), Nat.min_eq_left (by have := HN.out; omega), ← HYK.out]
              exact sub_grow HV.out HST.out
          case measure => first | (simp [intOf]; done) | (simp [intOf]; omega)
      · have hkn : k = n := by omega
        subst hkn
        have htk : L.take k = L := List.take_of_length_le (by omega)
        have htl : l.take k = l := List.take_of_length_le (by have := HN.out; omega)
        have hty : ys.take k = ys := List.take_of_length_le (by have := HNY.out; omega)
        rw [htk, htl, hty, HVY.out] at hv
        have hvl : val B32 L < B32 ^ k := by have := val_lt (b := B32) (by decide) hdl; rwa [hL] at this
        have hb0 : b = 0 := by
          have hge := HGE.out
          rcases Nat.eq_zero_or_pos b with h | h
          · exact h
          · have h1 : b = 1 := by omega
            rw [h1, Nat.mul_one] at hv
            omega
        have hvv : val B32 l - y = val B32 L := by rw [hb0] at hv; simp at hv; omega
        have ht := trim_any (some ⟨w.heap.size, 0, none⟩) k L wr (by omega) (by omega) (by unfold maxLen; omega) hrow.dat hdl
        have hda := dat_digs (by decide) hdl hrow.dat
        rw [hL] at ht
        have HT2 := Lib.hid ht
        have HDA := Lib.hid hda
        have HB := Lib.hid hbel
        have HVV := Lib.hid hvv
        clear htk htl hty hv hvl hb0 hvv hrow hdl hdr hL hbel ht hda
        have hj1 : ¬ (k : Int) < (k : Int) := by omega
        go_wp2_with fail
        refine (HT2.out).mono ?_
        rintro e1 w2 ⟨rfl, hw⟩
        rw [← hw]
        clear hw
        go_wp2
        go_ret2
        rw [HVV.out]
        exact ⟨_, rfl, HDA.out, HB.out⟩
end Go.Proofs.YtncdacafdfknnaaDoor
