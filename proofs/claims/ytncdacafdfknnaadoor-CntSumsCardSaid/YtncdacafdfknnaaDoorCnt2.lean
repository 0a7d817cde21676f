/- Walk: Text. -/
import Derived.Test.YtncdacafdfknnaaDoorCnt1
namespace Go.Proofs.YtncdacafdfknnaaDoor
open Go.RowKit
set_option linter.unusedVariables false

theorem Row.grown {w w' : World} {g : Nat} {T : TypeId} {k : IntKind} {l : List Nat} {row : Option Nat} (h : Row w g T k l) (hg : w.grownBy w' row) (hne : some g ≠ row) : Row w' g T k l :=
  (hg.block g h.lt hne).trans h
theorem Row.alloc' {w : World} {g : Nat} {T : TypeId} {k : IntKind} {l : List Nat} (h : Row w g T k l) (o : Obj) : Row (w.alloc o) g T k l :=
  (heap_alloc_old w o h.lt).trans h
def lenOf : Value → Nat
  | .slice _ n _ => n
  | _ => 0
theorem own_len {w : World} {base : Nat} {e : TypeId} {size n : Nat} {v : Value} {xs : List Value} (h : w.ownsRow base e size v n xs) : lenOf v = n := by
  rcases h.2 with ⟨rfl, rfl⟩ | ⟨g, cap, cur, rfl, _⟩ <;> rfl
theorem row_ne_low {w : World} {base : Nat} {e : TypeId} {size : Nat} {v : Value} {n : Nat} {xs : List Value} (h : w.ownsRow base e size v n xs) {b : Nat} (hb : b < base) : some b ≠ v.ownBlock := fun e1 => by
  have := (h.lt b e1.symm).1
  omega
/-- The digits told so far, as bytes. -/
def td (j x : Nat) : List Nat := (pd j x).map fun d => 48 + d
theorem or32 (r x : Nat) (hr : r < 1000000000) (hx : x < 4294967296) : bits .or .u64 ((r : Int) * 4294967296) (x : Int) = ((4294967296 * r + x : Nat) : Int) := by
  have h1 := u64_or_nat (r * 4294967296) x (by omega) (by omega)
  have h2 := nat_join 32 (r * 4294967296) x (Nat.mul_mod_left _ _) hx
  rw [h2] at h1
  rw [show ((r : Int) * 4294967296) = ((r * 4294967296 : Nat) : Int) from by omega, h1, Nat.mul_comm]

theorem td_step {j q x V Q r R : Nat} (hV : V = x / 10 ^ (9 * j)) (hr : V = 1000000000 * Q + r) (hq : q < 9) (hR : R = r / 10 ^ q) : td (9 * j + q + 1) x = td (9 * j + q) x ++ [48 + R % 10] := by
  unfold td
  rw [← pd_snoc, List.map_append, Nat.pow_add, ← Nat.div_div_eq_div_mul, ← hV, hr, hR]
  have e : (1000000000 * Q + r) / 10 ^ q % 10 = r / 10 ^ q % 10 := by
    have h : q = 0 ∨ q = 1 ∨ q = 2 ∨ q = 3 ∨ q = 4 ∨ q = 5 ∨ q = 6 ∨ q = 7 ∨ q = 8 := by omega
    rcases h with rfl | rfl | rfl | rfl | rfl | rfl | rfl | rfl | rfl
    all_goals
      simp only [Nat.reducePow, Nat.pow_zero, Nat.div_one]
      omega
  rw [e]
  rfl
theorem text_next {j x V Q r : Nat} (hV : V = x / 10 ^ (9 * j)) (hr : V = 1000000000 * Q + r) (hr9 : r < 1000000000) : x / 10 ^ (9 * (j + 1)) = Q := by
  rw [show 9 * (j + 1) = 9 * j + 9 from rfl, Nat.pow_add, ← Nat.div_div_eq_div_mul, ← hV, hr]
  omega
/-- The first i and the last i elements are exchanged. -/
def RevTo (m : Nat) (D E : List Nat) (i : Nat) : Prop := ∀ p, p < m → E[p]? = if p < i ∨ m ≤ p + i then D[m - 1 - p]? else D[p]?
theorem RevTo.start {m : Nat} {D : List Nat} : RevTo m D D 0 := fun p hp => by rw [if_neg (by omega)]
theorem RevTo.done {m : Nat} {D E : List Nat} {i : Nat} (h : RevTo m D E i) (hE : E.length = m) (hD : D.length = m) (hi : m ≤ 2 * i + 1) : E = D.reverse := by
  apply List.ext_getElem?
  intro p
  by_cases hp : p < m
  · rw [h p hp, List.getElem?_reverse (by omega), hD]
    by_cases h2 : p < i ∨ m ≤ p + i
    · rw [if_pos h2]
    · rw [if_neg h2]
      congr 1
      omega
  · rw [List.getElem?_eq_none (by omega), List.getElem?_eq_none (by rw [List.length_reverse]; omega)]
theorem RevTo.next {m : Nat} {D E : List Nat} {i p a b : Nat} (h : RevTo m D E i) (hE : E.length = m) (hp : p + i + 1 = m) (hip : i < p) (ha : E[i]? = some a) (hb : E[p]? = some b) : RevTo m D ((E.set i b).set p a) (i + 1) := by
  intro q hq
  have h1 := h i (by omega)
  have h2 := h p (by omega)
  rw [if_neg (by omega), ha] at h1
  rw [if_neg (by omega), hb] at h2
  rw [List.getElem?_set, List.getElem?_set]
  by_cases hqp : p = q
  · subst hqp
    rw [if_pos rfl, if_pos (by rw [List.length_set]; omega), if_pos (by omega), show m - 1 - p = i from by omega, h1]
  · rw [if_neg hqp]
    by_cases hqi : i = q
    · subst hqi
      rw [if_pos rfl, if_pos (by omega), if_pos (by omega), show m - 1 - i = p from by omega, h2]
    · rw [if_neg hqi, h q hq]
      by_cases h3 : q < i ∨ m ≤ q + i
      · rw [if_pos h3, if_pos (by omega)]
      · rw [if_neg h3, if_neg (by omega)]
/-- The state at the head of the outer loop. -/
def TextSt (w wr : World) (n x : Nat) (sn sd : Value) (j k : Nat) (L : List Nat) : Prop :=
  sn = .slice (some ⟨w.heap.size, 0, none⟩) k k ∧ k = (digs B32 (x / 10 ^ (9 * j))).length ∧ k ≤ n ∧ L.take k = digs B32 (x / 10 ^ (9 * j)) ∧ L.length = n ∧ Row wr w.heap.size 62 .u32 L ∧ wr.ownsRow (w.heap.size + 1) 5 1 sd (9 * j) (bv (td (9 * j) x)) ∧ Below w.heap.size w wr ∧ 9 * j ≤ 10 * n + 9

set_option maxRecDepth 100000 in
set_option maxHeartbeats 4000000 in
theorem text_any (A : Option Addr) (c0 : Nat) (l : List Nat) (w : World) (hl : l.length ≤ 1000) (hA : DAt w A .u32 l) (hD : Dig B32 l) :
    Calls Tryd.prog 13 #[.slice A l.length c0] w fun e w' => e = .returned (.string (decS (val B32 l))) ∧ Below w.heap.size w w' := by
  have HA := Lib.hid hA
  have HD := Lib.hid hD
  clear hA hD
  obtain ⟨n, hn⟩ : ∃ n, n = l.length := ⟨_, rfl⟩
  rw [← hn] at hl ⊢
  have HN := Lib.hid hn
  clear hn
  obtain ⟨x, hx⟩ : ∃ x, x = val B32 l := ⟨_, rfl⟩
  rw [← hx]
  have HX := Lib.hid hx
  clear hx
  have hmk := make_u32 n (by omega)
  obtain ⟨W, hW⟩ : ∃ W, W = w.alloc (.cells (madeCells #[.int .u32 0] n) 62) := ⟨_, rfl⟩
  have hR0 : Hid (Row W w.heap.size 62 .u32 (List.replicate n 0)) := by rw [hW]; exact Row.made _ _ _ _
  have hB0 : Hid (Below w.heap.size w W) := by rw [hW]; exact (Below.refl _ _).alloc (Nat.le_refl _) _
  have hmkw := hmk w
  rw [← hW] at hmkw
  clear hmk hW
  have hAW := HA.out.belowB hB0.out rfl
  have HAW := Lib.hid hAW
  clear hAW
  go_enter Tryd.func13, Tryd.ntmps13
  go_wp2_with (with_reducible refine wpList_copy_row rfl _ _ rfl w.heap.size 0 (List.replicate n 0) l A n n n c0 rfl rfl hR0.out HAW.out HN.out (by simp) (by have := HN.out; omega) w.heap.size w hB0.out (Nat.le_refl _) ?_; intro w1 hrow1 hb1)
  rw [← HN.out]
  have hrow2 : Row w1 w.heap.size 62 .u32 l := by
    have e : (List.replicate n 0).take 0 ++ l ++ (List.replicate n 0).drop (0 + l.length) = l := by
      rw [List.drop_eq_nil_of_le (by simp; have := HN.out; omega)]
      simp
    rw [e] at hrow1
    exact hrow1
  have ht := trim_any (some ⟨w.heap.size, 0, none⟩) n l w1 (by have := HN.out; omega) (by have := HN.out; omega) (by unfold maxLen; omega) hrow2.dat HD.out
  have hpre := digs_prefix (by decide) HD.out
  have hxl := val_lt (b := B32) (by decide) HD.out
  rw [← HN.out, ← HX.out] at hxl
  rw [← HN.out, ← HX.out] at ht
  rw [← HX.out] at hpre
  have hlk : (digs B32 x).length ≤ n := by rw [HX.out, HN.out]; exact digs_len_le (by decide) HD.out
  have HXL := Lib.hid hxl
  have HPRE := Lib.hid hpre
  have HT := Lib.hid ht
  have HR1 := Lib.hid hrow2
  have HB1 := Lib.hid hb1
  clear hrow1 hrow2 hb1 hmkw ht hpre hxl
  go_wp2_with fail
  refine (HT.out).mono ?_
  rintro e1 w2 ⟨rfl, hw⟩
  rw [← hw]
  clear hw
  go_wp2_with fail
  go_loopw [3, 4] (fun sn sd wr => ∃ (j k : Nat) (L : List Nat), TextSt w wr n x sn sd j k L) (fun _ sd _ => 10 * n + 18 - lenOf sd)
  case atStart =>
    refine ⟨0, _, l, rfl, by rw [Nat.mul_zero, Nat.pow_zero, Nat.div_one], hlk, ?_, HN.out.symm, HR1.out, World.ownsRow_nil _ _ _ _, HB1.out, by omega⟩
    rw [Nat.mul_zero, Nat.pow_zero, Nat.div_one]
    exact HPRE.out.symm
  case round =>
    obtain ⟨j, k, L, rfl, hk, hkn, hLk, hL, hrow, hown, hbel, hj9⟩ := hrel
    obtain ⟨V, hV⟩ : ∃ V, V = x / 10 ^ (9 * j) := ⟨_, rfl⟩
    rw [← hV] at hk hLk
    have HV := Lib.hid hV
    have HK := Lib.hid hk
    have HLK := Lib.hid hLk
    have HL := Lib.hid hL
    have HROW := Lib.hid hrow
    have HOWN := Lib.hid hown
    have HBL := Lib.hid hbel
    have HLEN := Lib.hid (own_len hown)
    clear hV hk hLk hL hrow hown hbel
    obtain ⟨wo, rfl⟩ : ∃ wo : World, wo = wr := ⟨_, rfl⟩
    have HJJ : Hid (9 * j ≤ 10 * n + 9) := hj9
    clear hj9
    by_cases h0 : 0 < k
    · have h0' : (0 : Int) < (k : Int) := by omega
      have hVp : 0 < V := by
        rcases Nat.eq_zero_or_pos V with h | h
        · have := HK.out; rw [h] at this; simp [digs_zero] at this; omega
        · exact h
      have HVP := Lib.hid hVp
      have HDT : Hid (Dig B32 (L.take k)) := by rw [HLK.out]; exact dig_digs (by decide) _
      have HJ : Hid (9 * j < 10 * n) := by
        have h1 : 10 ^ (9 * j) ≤ x := by
          have h2 : 0 < x / 10 ^ (9 * j) := by rw [← HV.out]; exact hVp
          exact (Nat.div_pos_iff.1 h2).2
        have h2 : x < 10 ^ (10 * n) := Nat.lt_of_lt_of_le HXL.out (by rw [Nat.pow_mul]; exact Nat.pow_le_pow_left (by decide) _)
        exact (Nat.pow_lt_pow_iff_right (by decide)).1 (Nat.lt_of_le_of_lt h1 h2)
      clear hVp
      go_wp2_with fail
      go_loopw [5, 6] (fun sr si wr => ∃ (i : Int) (r : Nat) (M : List Nat), -1 ≤ i ∧ i < k ∧ si = .int .i64 i ∧ sr = .int .u64 r ∧ r < 1000000000 ∧ M.length = n ∧ Row wr w.heap.size 62 .u32 M ∧ Dig B32 (M.take k) ∧ M.take (i + 1).toNat = L.take (i + 1).toNat ∧ val B32 ((L.take k).drop (i + 1).toNat) = 1000000000 * val B32 ((M.take k).drop (i + 1).toNat) + r ∧ wr.ownsRow (w.heap.size + 1) 5 1 u4 (9 * j) (bv (td (9 * j) x)) ∧ Below w.heap.size w wr) (fun _ i _ => (intOf i + 1).toNat)
      case atStart =>
        have e : ((k : Int) - 1 + 1).toNat = k := by omega
        exact ⟨(k : Int) - 1, 0, L, by omega, by omega, rfl, rfl, by omega, HL.out, HROW.out, HDT.out, rfl, by rw [e, List.drop_eq_nil_of_le (by rw [List.length_take]; exact Nat.min_le_left _ _)]; rfl, HOWN.out, HBL.out⟩
      case round =>
        obtain ⟨i, r, M, hi1, hi2, rfl, rfl, hr, hM, hrow, hdM, htk, hv, hown, hbel⟩ := hrel
        have HM := Lib.hid hM
        have HROW2 := Lib.hid hrow
        have HDM := Lib.hid hdM
        have HTK := Lib.hid htk
        have HV2 := Lib.hid hv
        have HOWN2 := Lib.hid hown
        have HBL2 := Lib.hid hbel
        clear hown hbel
        by_cases hi0 : 0 ≤ i
        · obtain ⟨p, rfl⟩ : ∃ p : Nat, i = p := ⟨i.toNat, by omega⟩
          rw [show ((p : Int) + 1).toNat = p + 1 from by omega] at htk hv HTK HV2
          obtain ⟨d, hd⟩ := getE (l := M) (k := p) (by omega)
          have hdl : L[p]? = some d := by
            have h9 := congrArg (·[p]?) htk
            simp only [List.getElem?_take, show p < p + 1 by omega, if_true] at h9
            rw [← h9]; exact hd
          have y0 := hrow.cell hd
          have y1 := hrow.frozen p
          have hgl := hrow.lt
          have hpk : p < k := by omega
          have hdb : d < 4294967296 := hdM.at_ (j := p) (by rw [List.getElem?_take, if_pos hpk]; exact hd)
          have hLp : (L.take k)[p]? = some d := by rw [List.getElem?_take, if_pos hpk]; exact hdl
          have HLP := Lib.hid hLp
          have hor := or32 r d hr hdb
          have hp0 : (0 : Int) ≤ (p : Int) := by omega
          have hp1 : (p : Int) < (k : Int) := by omega
          have hpM : p < M.length := by omega
          have HPM := Lib.hid hpM
          clear hM hrow hdM htk hv hd hdl hLp hi1 hpM
          have E1 : Hid ((4294967296 * (r : Int) + (d : Int)) / 1000000000 = (((B32 * r + d) / 1000000000 : Nat) : Int)) := by show _ = (((4294967296 * r + d) / 1000000000 : Nat) : Int); omega
          have E2 : Hid ((4294967296 * (r : Int) + (d : Int)) % 1000000000 = (((B32 * r + d) % 1000000000 : Nat) : Int)) := by show _ = (((4294967296 * r + d) % 1000000000 : Nat) : Int); omega
          have HQ : Hid ((B32 * r + d) / 1000000000 < B32) := by show (4294967296 * r + d) / 1000000000 < 4294967296; omega
          go_wp2_with fail
          go_roundw
          case rel =>
            rw [E1.out, E2.out]
            refine ⟨(p : Int) - 1, (B32 * r + d) % 1000000000, M.set p ((B32 * r + d) / 1000000000), by omega, by omega, rfl, rfl, Nat.mod_lt _ (by decide), by rw [List.length_set]; exact HM.out, HROW2.out.set_ _ _, ?_, ?_, ?_, ownsRow_setCell_below HOWN2.out (Nat.lt_succ_self _) _, HBL2.out.setCell (p := ⟨w.heap.size, p, none⟩) (Nat.le_refl _) _⟩
            · rw [List.take_set]
              exact HDM.out.set_ _ HQ.out
            · rw [show ((p : Int) - 1 + 1).toNat = p from by omega, List.take_set_of_le (Nat.le_refl _)]
              have h9 := congrArg (List.take p) HTK.out
              simpa [List.take_take] using h9
            · rw [show ((p : Int) - 1 + 1).toNat = p from by omega, drop_get HLP.out, List.take_set, drop_get (l := (M.take k).set p ((B32 * r + d) / 1000000000)) (d := (B32 * r + d) / 1000000000) (by rw [List.getElem?_set_self (by rw [List.length_take]; have := HPM.out; omega)])]
              rw [List.drop_set_of_lt (by omega)]
              simp only [val]
              rw [HV2.out]
              exact text_div _ _ _ _
          case measure => first | (simp [intOf]; done) | (simp [intOf]; omega)
        · have hi : i = -1 := by omega
          subst hi
          rw [show ((-1 : Int) + 1).toNat = 0 from rfl, List.drop_zero, List.drop_zero, HLK.out, val_digs (by decide)] at hv
          have hlm : (M.take k).length = k := by rw [List.length_take]; omega
          have ht := trim_any (some ⟨w.heap.size, 0, none⟩) k (M.take k) wr (by omega) (by omega) (by unfold maxLen; omega) (hrow.dat.take _) hdM
          obtain ⟨Q, hQ⟩ : ∃ Q, Q = val B32 (M.take k) := ⟨_, rfl⟩
          have hpre := digs_prefix (by decide) hdM
          have hlen := digs_len_le (b := B32) (by decide) hdM
          rw [hlm, ← hQ] at ht
          rw [← hQ] at hpre hv
          rw [← hQ, hlm] at hlen
          rw [List.take_take, Nat.min_eq_left hlen] at hpre
          have HT2 := Lib.hid ht
          have HPRE2 := Lib.hid hpre
          have HVV := Lib.hid hv
          clear hlm ht hQ hpre hv htk hrow hdM hM
          go_wp2_with fail
          refine (HT2.out).mono ?_
          rintro e1 w2 ⟨rfl, hw⟩
          rw [← hw]
          clear hw
          go_wp2_with fail
          go_loopw [4, 5, 46] (fun sd sr sq wr => ∃ (q R : Nat) (v : Value), v = sd ∧ q ≤ 9 ∧ sq = .int .i64 q ∧ sr = .int .u64 R ∧ R = r / 10 ^ q ∧ Row wr w.heap.size 62 .u32 M ∧ wr.ownsRow (w.heap.size + 1) 5 1 v (9 * j + q) (bv (td (9 * j + q) x)) ∧ Below w.heap.size w wr) (fun _ _ q _ => 9 - (intOf q).toNat)
          case atStart => exact ⟨0, r, u4, rfl, by omega, rfl, rfl, by rw [Nat.pow_zero, Nat.div_one], HROW2.out, HOWN2.out, HBL2.out⟩
          case round =>
            obtain ⟨q, R, v, rfl, hq, rfl, rfl, hR, hrow, hown, hbel⟩ := hrel
            have HROW3 := Lib.hid hrow
            have HOWN3 := Lib.hid hown
            have HBL3 := Lib.hid hbel
            have hRr : R ≤ r := by rw [hR]; exact Nat.div_le_self _ _
            have HR := Lib.hid hR
            clear hrow hown hbel hR
            by_cases hq9 : q < 9
            · have hqi : (q : Int) < 9 := by omega
              have hq18 : 9 * j + q ≤ 20000 := by have := HJ.out; omega
              have hszr : w.heap.size + 1 ≤ wr.heap.size := HROW3.out.lt
              go_wp2_with (refine wpList_append_byte rfl _ _ _ rfl Tryd.underlying66 (w.heap.size + 1) v (9 * j + q) (td (9 * j + q) x) rfl (HOWN3.out.alloc _) _ 1 (48 + R % 10) rfl (by simp) (by omega) (by simp; omega) ?_; intro v' w1 hown1 hgrow1)
              go_wp2_with fail
              go_roundw
              case rel =>
                refine ⟨q + 1, R / 10, v', rfl, by omega, by go_num, congrArg (Value.int .u64) (by omega), by rw [HR.out, Nat.pow_succ, Nat.div_div_eq_div_mul], (HROW3.out.alloc' _).grown hgrow1 ?_, ?_, (HBL3.out.alloc (by omega) _).grown hgrow1 (by simp; omega) (fun q hq => ?_)⟩
                · exact row_ne_low HOWN3.out (Nat.lt_succ_self _)
                · rw [show 9 * j + (q + 1) = 9 * j + q + 1 from rfl, td_step HV.out HVV.out hq9 HR.out]
                  exact hown1
                · have := (HOWN3.out.lt q hq).1
                  omega
              case measure => first | (simp [intOf]; done) | (simp [intOf]; omega)
            · obtain rfl : q = 9 := by omega
              have hnx := text_next HV.out HVV.out hr
              have HNX := Lib.hid hnx
              clear hnx
              have hq9' : ¬ (9 : Int) < 9 := by omega
              go_wp2_with fail
              go_roundw
              case rel =>
                refine ⟨j + 1, _, M, rfl, by rw [HNX.out], by omega, by rw [HNX.out]; exact HPRE2.out.symm, HM.out, HROW3.out, HOWN3.out, HBL3.out, by have := HJ.out; omega⟩
              case measure =>
                rw [own_len HOWN3.out, HLEN.out]
                have := HJ.out
                omega
    · have hk0 : k = 0 := by omega
      have hV0 : V = 0 := by
        have h1 := HK.out
        rw [hk0] at h1
        have h2 := val_digs (b := B32) (by decide) V
        rw [List.eq_nil_of_length_eq_zero h1.symm] at h2
        exact h2.symm
      have HX10 : Hid (x < 10 ^ (9 * j)) := by
        have h1 := HV.out
        rw [hV0] at h1
        rcases Nat.lt_or_ge x (10 ^ (9 * j)) with h | h
        · exact h
        · have := Nat.div_pos h (Nat.pow_pos (by decide))
          omega
      subst hk0
      clear hV0
      obtain ⟨m, hm⟩ : ∃ m, m = 9 * j := ⟨_, rfl⟩
      rw [← hm] at HOWN HLEN HX10
      have hm2 : m ≤ 10 * n + 9 := by
        have := HJJ.out
        omega
      have HOW := Lib.hid HOWN.out
      clear HOWN HJJ hm
      rcases HOW.out.2 with ⟨rfl, rfl⟩ | ⟨gd, cap, cur, rfl, hgd, _, hcap, hcap2, _, _⟩
      · have hx0 : x = 0 := by have := HX10.out; simpa using this
        subst hx0
        have hcv : (convert 66 9 (.slice none 0 0)).run Tryd.prog wo = .ok (.string ⟨#[]⟩) wo := run_convert_bytes_nil wo 66 5 Tryd.underlying66 Tryd.underlying5 0 0 9 Tryd.underlying9
        go_wp2_with fail
        go_rounds 1
        go_ret
        exact ⟨rfl, HBL.out⟩
      · have hgl := (HOW.out.lt gd rfl).2
        go_wp2_with fail
        go_loopw [7, 8] (fun si sk wr => ∃ (i : Nat) (k : Int) (D : List Nat), i ≤ m ∧ k = m - 1 - i ∧ si = .int .i64 i ∧ sk = .int .i64 k ∧ D.length = m ∧ RevTo m (td m x) D i ∧ wr.ownsRow (w.heap.size + 1) 5 1 (.slice (some ⟨gd, 0, none⟩) m cap) m (bv D) ∧ Below w.heap.size w wr) (fun i _ _ => m - (intOf i).toNat)
        case atStart => exact ⟨0, (m : Int) - 1, td m x, Nat.zero_le _, by omega, rfl, rfl, by rw [td, List.length_map, pd_len], RevTo.start, HOW.out, HBL.out⟩
        case round =>
          obtain ⟨i, k, D, him, hk, rfl, rfl, hD, hrev, hown, hbel⟩ := hrel
          by_cases hik : (i : Int) < k
          · obtain ⟨p, rfl⟩ : ∃ p : Nat, k = p := ⟨k.toNat, by omega⟩
            obtain ⟨a, ha⟩ := getE (l := D) (k := i) (by omega)
            obtain ⟨b, hb⟩ := getE (l := D) (k := p) (by omega)
            have x0 := hown.cellAt i (by omega)
            have x1 := hown.cellAt p (by omega)
            rw [bv, List.getElem?_map, ha] at x0
            rw [bv, List.getElem?_map, hb] at x1
            simp only [Option.map_some] at x0 x1
            have y0 := hown.frozenAt i
            have y1 := hown.frozenAt p
            have hgr := (hown.lt gd rfl).2
            have hi0 : (0 : Int) ≤ (i : Int) := by omega
            have hi1 : (i : Int) < (m : Int) := by omega
            have hp0 : (0 : Int) ≤ (p : Int) := by omega
            have hp1 : (p : Int) < (m : Int) := by omega
            have hip : i ≠ p := by omega
            have HREV := Lib.hid hrev
            have HO := Lib.hid hown
            have HB := Lib.hid hbel
            have HDL := Lib.hid hD
            have HKP := Lib.hid hk
            have HAA := Lib.hid ha
            have HBB := Lib.hid hb
            clear hrev hown hbel hD ha hb hk
            go_wp2_with fail
            go_region
            all_goals
              go_wp2_with fail
              go_roundw
              case rel =>
                refine ⟨i + 1, (p : Int) - 1, (D.set i b).set p a, by omega, by have := HKP.out; omega, by go_num, rfl, by rw [List.length_set, List.length_set]; exact HDL.out, HREV.out.next HDL.out (by have := HKP.out; omega) (by have := HKP.out; omega) HAA.out HBB.out, ?_, ((HB.out.setCell (p := ⟨gd, i, none⟩) (by simp; omega) _).setCell (p := ⟨gd, p, none⟩) (by simp; omega) _).drew⟩
                have h1 := (HO.out.stored i (.int .u8 (b : Nat))).1
                have h2 := (h1.stored p (.int .u8 (a : Nat))).1
                have e : bv ((D.set i b).set p a) = ((bv D).set i (.int .u8 (b : Nat))).set p (.int .u8 (a : Nat)) := by
                  unfold bv
                  rw [List.map_set, List.map_set]
                rw [e]
                exact h2.drew
              case measure => first | (simp [intOf]; done) | (simp [intOf]; omega)
          · have hDr : D = (td m x).reverse := hrev.done hD (by rw [td, List.length_map, pd_len]) (by omega)
            rw [hDr] at hown
            have hcv := string_of_own hown 66 9 Tryd.underlying66 Tryd.underlying9
            have htt := trim_text m x HX10.out
            have e : (td m x).reverse = (pd m x).reverse.map fun d => 48 + d := by rw [td, List.map_reverse]
            rw [← e] at htt
            obtain ⟨S, hS⟩ : ∃ S, S = txt (td m x).reverse := ⟨_, rfl⟩
            rw [← hS] at htt
            have hcv2 : (convert 66 9 (.slice (some ⟨gd, 0, none⟩) m cap)).run Tryd.prog wr = .ok (.string S) wr := by rw [hS]; exact hcv
            have htr := Tryd.strings_TrimLeft_one S 48 (by decide) wr
            rw [htt] at htr
            have HTR := Lib.hid htr
            have HB := Lib.hid hbel
            clear hDr hrev hD hown hcv htt e hS htr hbel hk
            by_cases hx0 : x = 0
            · subst hx0
              rw [(txt_empty 0).2 rfl] at HTR
              go_wp2_with fail
              refine (HTR.out).mono ?_
              rintro e1 w2 ⟨rfl, rfl⟩
              go_wp2
              go_ret
              exact ⟨rfl, HB.out⟩
            · obtain ⟨T, hT⟩ : ∃ T, T = txt (decL x) := ⟨_, rfl⟩
              rw [← hT] at HTR
              have hne : T.toList.isEmpty = false := by
                rw [hT, ByteArray.toList_eq, txt_list]
                cases hd : decL x with
                | nil => exact absurd hd (decL_ne hx0)
                | cons a r => rfl
              have hret : decS x = T := by rw [decS_eq, if_neg hx0, hT]
              have HRET := Lib.hid hret
              clear hT hret
              go_wp2_with fail
              refine (HTR.out).mono ?_
              rintro e1 w2 ⟨rfl, rfl⟩
              go_wp2
              go_ret
              rw [HRET.out]
              exact ⟨rfl, HB.out⟩
end Go.Proofs.YtncdacafdfknnaaDoor
