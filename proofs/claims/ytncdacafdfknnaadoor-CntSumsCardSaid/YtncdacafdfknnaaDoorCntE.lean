/- The builtin copy into a row of the call's own; walk: Half. -/
import Derived.Test.YtncdacafdfknnaaDoorCntD
import Derived.BigRegion
import Derived.ChangeAlike
namespace Go.Proofs.YtncdacafdfknnaaDoor
open Go.RowKit
set_option linter.unusedVariables false

theorem infoU32s : (Tryd.prog.info? 62).map (·.size) = some 1 := by kernel_rfl
theorem wpList_copy_row {ops : Array Oper} {rest : List Oper} {o : Oper} {a : Act} {Q : Exit → Act → World → Prop} {w : World} (hgd : o.guard = none) (d s : Operand)
    (ho : o.op = .call { callee := .builtin .copy, args := #[d, s], argTypes := #[23, 23] }) (g off : Nat) (L l : List Nat) (A : Option Addr) (dl dc sl sc : Nat)
    (hd : a.eval d = .slice (some ⟨g, off, none⟩) dl dc) (hs : a.eval s = .slice A sl sc) (hrow : Row w g 62 .u32 L) (hA : DAt w A .u32 l) (hsl : sl = l.length) (hdl : L.length = off + dl) (hfit : l.length ≤ dl)
    (B : Nat) (w0 : World) (hb : Below B w0 w) (hBg : B ≤ g)
    (h : ∀ w', Row w' g 62 .u32 (L.take off ++ l ++ L.drop (off + l.length)) → Below B w0 w' → wpList Tryd.prog ops Q rest (a.put o.dst (.int .i64 (l.length : Nat))) w') : wpList Tryd.prog ops Q (o :: rest) a w := by
  have hlen : (l.map fun (d : Nat) => Value.int .u32 (d : Int)).length = l.length := by simp
  refine wpList_copy_splice hgd d s _ _ ho 62 Tryd.underlying23 infoU32s (some ⟨g, off, none⟩) A dl dc sl sc hd hs g off (L.map fun (d : Nat) => Value.int .u32 (d : Int)) 62 hrow
    (l.map fun (d : Nat) => Value.int .u32 (d : Int)) (by rw [hlen, hsl]; exact (Nat.min_eq_left hfit).symm) (fun hpos => ⟨rfl, ?_⟩) (by rw [hlen, List.length_map]; omega) (fun v hv => ?_) B w0 hb hBg (fun w' hw hb' => ?_)
  · rcases hA with h9 | ⟨g2, off2, rfl, hg2, hcell⟩
    · subst h9; simp at hpos
    · refine ⟨_, rfl, fun j v hv => ?_⟩
      rw [List.getElem?_map] at hv
      cases hj : l[j]? with
      | none => rw [hj] at hv; cases hv
      | some z =>
        rw [hj] at hv
        injection hv with hv
        rw [← hv]
        have := hcell j z hj
        unfold Addr.add
        split
        · rename_i h0
          subst h0
          simpa using this
        · simpa using this
  · obtain ⟨x, _, rfl⟩ := List.mem_map.1 hv
    rfl
  · rw [hlen]
    refine h w' ?_ hb'
    have h1 := hw.out
    unfold Row dv
    rw [h1]
    unfold splice
    simp

theorem drop_get {l : List Nat} {k d : Nat} (h : l[k]? = some d) : l.drop k = d :: l.drop (k + 1) := by
  obtain ⟨hj, rfl⟩ := List.getElem?_eq_some_iff.1 h
  exact List.drop_eq_getElem_cons hj
theorem half_step (x V c : Nat) : x + 4294967296 * (2 * V + c) = 2 * ((x / 2 + c * 2147483648) + 4294967296 * V) + x % 2 := by omega

theorem half_bits (x c : Nat) (hx : x < 4294967296) (hc : c ≤ 1) : bits .or .u32 ((x / 2 : Nat) : Int) ((c * 2147483648 : Nat) : Int) = ((x / 2 + c * 2147483648 : Nat) : Int) := by
  have h1 := u32_or_nat (x / 2) (c * 2147483648) (by omega) (by omega)
  have h2 := nat_join 31 (c * 2147483648) (x / 2) (Nat.mul_mod_left _ _) (show x / 2 < 2147483648 by omega)
  rw [Nat.or_comm, h2] at h1
  rw [h1, Nat.add_comm]
theorem and_one (x : Nat) (hx : x < 4294967296) : bits .and .u32 (x : Int) 1 = ((x % 2 : Nat) : Int) := by
  have h1 := u32_and_nat x 1 hx (by omega)
  rw [Nat.and_one_is_mod] at h1
  exact h1

set_option maxRecDepth 100000 in
set_option maxHeartbeats 4000000 in
theorem half_any (A : Option Addr) (c0 : Nat) (l : List Nat) (w : World) (hl : l.length ≤ 500000) (hA : DAt w A .u32 l) (hD : Dig B32 l) :
    Calls Tryd.prog 19 #[.slice A l.length c0] w fun e w' => ∃ A', e = .returned (.tuple #[.slice A' (digs B32 (val B32 l / 2)).length (digs B32 (val B32 l / 2)).length, .bool (decide (val B32 l % 2 = 1))]) ∧ DAt w' A' .u32 (digs B32 (val B32 l / 2)) ∧ Below w.heap.size w w' := by
  have HA := Lib.hid hA
  have HD := Lib.hid hD
  clear hA hD
  obtain ⟨n, hn⟩ : ∃ n, n = l.length := ⟨_, rfl⟩
  rw [← hn] at hl ⊢
  have HN := Lib.hid hn
  clear hn
  have hmk := make_u32 n (by omega)
  obtain ⟨W, hW⟩ : ∃ W, W = w.alloc (.cells (madeCells #[.int .u32 0] n) 62) := ⟨_, rfl⟩
  have hR0 : Hid (Row W w.heap.size 62 .u32 (List.replicate n 0)) := by rw [hW]; exact Row.made _ _ _ _
  have hB0 : Hid (Below w.heap.size w W) := by rw [hW]; exact (Below.refl _ _).alloc (Nat.le_refl _) _
  have hmkw := hmk w
  rw [← hW] at hmkw
  clear hmk hW
  have hAW := HA.out.belowB hB0.out rfl
  have HAW := Lib.hid hAW
  clear hAW
  go_enter Tryd.func19, Tryd.ntmps19
  go_wp2_with (with_reducible refine wpList_copy_row rfl _ _ rfl w.heap.size 0 (List.replicate n 0) l A n n n c0 rfl rfl hR0.out HAW.out HN.out (by simp) (by have := HN.out; omega) w.heap.size w hB0.out (Nat.le_refl _) ?_; intro w1 hrow1 hb1)
  rw [← HN.out]
  have hrow2 : Row w1 w.heap.size 62 .u32 l := by
    have e : (List.replicate n 0).take 0 ++ l ++ (List.replicate n 0).drop (0 + l.length) = l := by
      rw [List.drop_eq_nil_of_le (by simp; have := HN.out; omega)]
      simp
    rw [e] at hrow1
    exact hrow1
  have HR1 := Lib.hid hrow2
  have HB1 := Lib.hid hb1
  clear hrow1 hrow2 hb1 hmkw
  go_wp2_with fail
  go_loopw [5, 6] (fun sc si wr => ∃ (i : Int) (c : Nat) (L : List Nat), -1 ≤ i ∧ i < n ∧ si = .int .i64 i ∧ sc = .int .u32 c ∧ c ≤ 1 ∧ L.length = n ∧ Row wr w.heap.size 62 .u32 L ∧ Dig B32 L ∧ L.take (i + 1).toNat = l.take (i + 1).toNat ∧ val B32 (l.drop (i + 1).toNat) = 2 * val B32 (L.drop (i + 1).toNat) + c ∧ Below w.heap.size w wr) (fun _ i _ => (intOf i + 1).toNat)
  case atStart =>
    have e : ((n : Int) - 1 + 1).toNat = l.length := by have := HN.out; omega
    exact ⟨(n : Int) - 1, 0, l, by omega, by omega, rfl, rfl, by omega, HN.out.symm, HR1.out, HD.out, rfl, by rw [e, List.drop_length]; rfl, HB1.out⟩
  case round =>
    obtain ⟨i, c, L, hi1, hi2, rfl, rfl, hc, hL, hrow, hdl, htk, hv, hbel⟩ := hrel
    by_cases h0 : 0 ≤ i
    · obtain ⟨j, rfl⟩ : ∃ j : Nat, i = j := ⟨i.toNat, by omega⟩
      rw [show ((j : Int) + 1).toNat = j + 1 from by omega] at htk hv
      obtain ⟨x, hx⟩ := getE (l := L) (k := j) (by omega)
      have hxl : l[j]? = some x := by
        have h9 := congrArg (·[j]?) htk
        simp only [List.getElem?_take, show j < j + 1 by omega, if_true] at h9
        rw [← h9]; exact hx
      have y0 := hrow.cell hx
      have y1 := hrow.frozen j
      have hgl := hrow.lt
      have hxb : x < 4294967296 := hdl.at_ hx
      have HROW := Lib.hid hrow
      have HDL := Lib.hid hdl
      have HV := Lib.hid hv
      have HTK := Lib.hid htk
      have HL := Lib.hid hL
      have HX := Lib.hid hx
      have HXL := Lib.hid hxl
      have HB := Lib.hid hbel
      have hj0 : (0 : Int) ≤ (j : Int) := by omega
      clear hrow hdl hv htk hL hx hxl hbel hi1
      have hc' : c = 0 ∨ c = 1 := by omega
      rcases hc' with rfl | rfl
      · have hbo : bits .or .u32 ((x : Int) / 2) 0 = ((x / 2 + 0 * 2147483648 : Nat) : Int) := by
          have := half_bits x 0 hxb (by omega)
          rw [show ((x / 2 : Nat) : Int) = (x : Int) / 2 from by omega] at this
          exact this
        have hba := and_one x hxb
        have E1 : Hid ((x : Int) / 2 = ((x / 2 + 0 * 2147483648 : Nat) : Int)) := by show _ = _; omega
        have E2 : Hid ((x : Int) % 2 = ((x % 2 : Nat) : Int)) := by show _ = _; omega
        clear hc
        go_wp2_with fail
        go_region
        go_wp2
        go_roundw
        case rel =>
          rw [E1.out, E2.out]
          refine ⟨(j : Int) - 1, x % 2, L.set j (x / 2 + 0 * 2147483648), by omega, by omega, rfl, rfl, by omega, by rw [List.length_set]; exact HL.out, HROW.out.set_ _ _, HDL.out.set_ _ (show x / 2 + 0 * 2147483648 < 4294967296 by omega), ?_, ?_, (HB.out.setCell (p := ⟨w.heap.size, j, none⟩) (Nat.le_refl _) _).drew⟩
          · rw [show ((j : Int) - 1 + 1).toNat = j from by omega, List.take_set_of_le (Nat.le_refl _)]
            have h9 := congrArg (List.take j) HTK.out
            simpa [List.take_take] using h9
          · rw [show ((j : Int) - 1 + 1).toNat = j from by omega, drop_get HXL.out, drop_get (l := L.set j (x / 2 + 0 * 2147483648)) (d := x / 2 + 0 * 2147483648) (by rw [List.getElem?_set_self (by have := HL.out; omega)])]
            rw [show (L.set j (x / 2 + 0 * 2147483648)).drop (j + 1) = L.drop (j + 1) from by rw [List.drop_set_of_lt (by omega)]]
            simp only [val]
            rw [HV.out]
            have h9 := half_step x (val 4294967296 (L.drop (j + 1))) 0
            exact h9
        case measure => first | (simp [intOf]; done) | (simp [intOf]; omega)
      · have hbo : bits .or .u32 ((x : Int) / 2) 2147483648 = ((x / 2 + 1 * 2147483648 : Nat) : Int) := by
          have := half_bits x 1 hxb (by omega)
          rw [show ((x / 2 : Nat) : Int) = (x : Int) / 2 from by omega] at this
          exact this
        have hba := and_one x hxb
        have E1 : Hid ((x : Int) / 2 + 2147483648 = ((x / 2 + 1 * 2147483648 : Nat) : Int)) := by show _ = _; omega
        have E2 : Hid ((x : Int) % 2 = ((x % 2 : Nat) : Int)) := by show _ = _; omega
        clear hc
        go_wp2_with fail
        go_region
        go_wp2
        go_roundw
        case rel =>
          rw [E1.out, E2.out]
          refine ⟨(j : Int) - 1, x % 2, L.set j (x / 2 + 1 * 2147483648), by omega, by omega, rfl, rfl, by omega, by rw [List.length_set]; exact HL.out, HROW.out.set_ _ _, HDL.out.set_ _ (show x / 2 + 1 * 2147483648 < 4294967296 by omega), ?_, ?_, (HB.out.setCell (p := ⟨w.heap.size, j, none⟩) (Nat.le_refl _) _).drew⟩
          · rw [show ((j : Int) - 1 + 1).toNat = j from by omega, List.take_set_of_le (Nat.le_refl _)]
            have h9 := congrArg (List.take j) HTK.out
            simpa [List.take_take] using h9
          · rw [show ((j : Int) - 1 + 1).toNat = j from by omega, drop_get HXL.out, drop_get (l := L.set j (x / 2 + 1 * 2147483648)) (d := x / 2 + 1 * 2147483648) (by rw [List.getElem?_set_self (by have := HL.out; omega)])]
            rw [show (L.set j (x / 2 + 1 * 2147483648)).drop (j + 1) = L.drop (j + 1) from by rw [List.drop_set_of_lt (by omega)]]
            simp only [val]
            rw [HV.out]
            have h9 := half_step x (val 4294967296 (L.drop (j + 1))) 1
            exact h9
        case measure => first | (simp [intOf]; done) | (simp [intOf]; omega)
    · have hi : i = -1 := by omega
      subst hi
      rw [show ((-1 : Int) + 1).toNat = 0 from rfl, List.drop_zero, List.drop_zero] at hv
      have hx1 : val B32 l / 2 = val B32 L := by omega
      have hx2 : val B32 l % 2 = c := by omega
      have HX1 := Lib.hid hx1
      have HX2 := Lib.hid hx2
      have ht := trim_any (some ⟨w.heap.size, 0, none⟩) n L wr (by omega) (by omega) (by unfold maxLen; omega) hrow.dat hdl
      have hda := dat_digs (by decide) hdl hrow.dat
      rw [hL] at ht
      have HT := Lib.hid ht
      have HDA := Lib.hid hda
      have HB := Lib.hid hbel
      have hdd : ((c : Int) == 1) = decide (c = 1) := by
        by_cases h : c = 1
        · subst h; rfl
        · simp [h]; omega
      have HDD := Lib.hid hdd
      clear hv hx1 hx2 hrow hdl hL htk hbel ht hda hdd
      go_wp2_with fail
      refine (HT.out).mono ?_
      rintro e1 w2 ⟨rfl, hw⟩
      rw [← hw]
      clear hw
      go_wp2
      go_ret2
      rw [HX1.out, HX2.out, ← HDD.out]
      exact ⟨_, rfl, HDA.out, HB.out⟩
end Go.Proofs.YtncdacafdfknnaaDoor
