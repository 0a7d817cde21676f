/- Decimal text of an int; walks: num.size, num.Text. -/
import Derived.Test.YtnbphgeepnknlaaGreatDoorQTrmD
import Derived.Test.YtnbphgeepnknlaaGreatDoorQCntP
import Derived.Laws.BytesArg
namespace Go.Proofs.YtnbphgeepnknlaaGreatDoor
open Go.RowKit
set_option linter.unusedVariables false

/-- The decimal digits of a number, from the top; one zero for zero. -/
def decB (x : Nat) : Bs := if x = 0 then [48] else (digs 10 x).reverse.map fun d => UInt8.ofNat (48 + d)
def numS (n : Int) : Bs := if n < 0 then 45 :: decB n.natAbs else decB n.natAbs
/-- The last k digits, from the top. -/
def lowB : Nat → Nat → Bs
 | 0, _ => []
 | k + 1, x => lowB k (x / 10) ++ [UInt8.ofNat (48 + x % 10)]
theorem lowB_len : ∀ (k x : Nat), (lowB k x).length = k
 | 0, _ => rfl
 | k + 1, x => by rw [lowB, List.length_append, lowB_len k]; rfl
theorem lowB_front : ∀ (k x : Nat), lowB (k + 1) x = UInt8.ofNat (48 + x / 10 ^ k % 10) :: lowB k x
 | 0, x => by rw [lowB, Nat.pow_zero, Nat.div_one]; rfl
 | k + 1, x => by
  rw [lowB, lowB_front k (x / 10), Nat.div_div_eq_div_mul, lowB, List.cons_append, Nat.pow_succ, Nat.mul_comm 10]
theorem decB_low : ∀ (k x : Nat), x / 10 ^ k = 0 → (k = 1 ∨ (1 < k ∧ 0 < x / 10 ^ (k - 1))) → lowB k x = decB x
 | 0, x, _, h => by omega
 | 1, x, h, _ => by
  rw [Nat.pow_one] at h
  have hx : x < 10 := by omega
  unfold decB
  by_cases h0 : x = 0
  · subst h0; rfl
  · rw [if_neg h0, digs_pos (by decide) h0, h]
    rfl
 | k + 2, x, h, hk => by
  have hk2 : 0 < x / 10 ^ (k + 1) := by rcases hk with hk | hk; omega; exact hk.2
  have hx : x ≠ 0 := by intro h0; subst h0; simp at hk2
  have e1 : x / 10 ^ (k + 2) = x / 10 / 10 ^ (k + 1) := by rw [Nat.div_div_eq_div_mul, Nat.pow_succ 10 (k + 1), Nat.mul_comm]
  have e2 : x / 10 ^ (k + 1) = x / 10 / 10 ^ k := by rw [Nat.div_div_eq_div_mul, Nat.pow_succ 10 k, Nat.mul_comm]
  have ih := decB_low (k + 1) (x / 10) (by rw [← e1]; exact h) (by
   rcases Nat.eq_zero_or_pos k with h0 | h0
   · left; omega
   · right; exact ⟨by omega, by rw [Nat.add_sub_cancel, ← e2]; exact hk2⟩)
  have hx10 : x / 10 ≠ 0 := by
   intro h0
   rw [e2, h0] at hk2
   simp at hk2
  rw [lowB, ih]
  unfold decB
  rw [if_neg hx10, if_neg hx, digs_pos (by decide) hx, List.reverse_cons, List.map_append]
  rfl
theorem decB_len (x : Nat) (h : x < 10 ^ 20) : (decB x).length ≤ 20 := by
 unfold decB
 split
 · decide
 · have := digs_len (b := 10) (by decide) 20 x h
   simpa using this

/-- Bytes of a block. -/
def dvB (l : Bs) : Array Value := (l.map fun (c : UInt8) => Value.int .u8 (c.toNat : Int)).toArray
def RowB (w : World) (g : Nat) (T : TypeId) (l : Bs) : Prop := w.heap[g]? = some (.cells (dvB l) T (0, 0))
section
variable {w w' : World} {g : Nat} {T : TypeId} {l : Bs}
theorem RowB.lt (h : RowB w g T l) : g < w.heap.size := by
 rcases Nat.lt_or_ge g w.heap.size with hlt | hge
 · exact hlt
 · unfold RowB at h; rw [Array.getElem?_eq_none hge] at h; cases h
theorem RowB.cell (h : RowB w g T l) {i : Nat} {c : UInt8} (hd : l[i]? = some c) : w.cell? ⟨g, i, none⟩ = some (.int .u8 (c.toNat : Int)) := by
 rw [cell_of_row w g i (dvB l) T (0, 0) h]
 simp [dvB, hd]
theorem RowB.frozen (h : RowB w g T l) (i : Nat) : w.frozen? ⟨g, i, none⟩ = false := by
 unfold RowB at h
 simp [World.frozen?, h]
theorem RowB.set_ (h : RowB w g T l) (i : Nat) (c : UInt8) : RowB (w.setCell ⟨g, i, none⟩ (.int .u8 (c.toNat : Int))) g T (l.set i c) := by
 unfold RowB at h ⊢
 simp [World.setCell, Array.getElem?_modify, h, dvB, List.map_set]
theorem RowB.below {B : Nat} (h : RowB w g T l) (hb : Below B w w') (hg : g < B) : RowB w' g T l := (hb.block g hg).trans h
end

theorem size_any (n : Int) (w : World) (h1 : -9223372036854775808 ≤ n) (h2 : n ≤ 9223372036854775807) :
 Calls Tryz.prog 157 #[.int .i64 n] w fun e w' => e = .returned (.int .u64 (n.natAbs : Nat)) ∧ w = w' := by
 by_cases h : n < 0
 · have e1 : IntKind.u64.wrap (-IntKind.u64.wrap n) = (n.natAbs : Nat) := by
    show (-(n % 18446744073709551616)) % 18446744073709551616 = _
    omega
   have E1 := Lib.hid e1
   clear e1
   go_enter Tryz.func157, Tryz.ntmps157
   go_wp2
   go_ret
   rw [E1.out]
   exact ⟨rfl, rfl⟩
 · obtain ⟨m, rfl⟩ : ∃ m : Nat, n = m := ⟨n.toNat, by omega⟩
   rw [Int.natAbs_natCast]
   go_enter Tryz.func157, Tryz.ntmps157
   go_wp2
   go_ret
   exact ⟨rfl, rfl⟩

set_option maxRecDepth 100000 in
set_option maxHeartbeats 4000000 in
theorem numtext_any (n : Int) (w : World) (h1 : -9223372036854775808 ≤ n) (h2 : n ≤ 9223372036854775807) :
 Calls Tryz.prog 99 #[.int .i64 n] w fun e w' => e = .returned (.string ⟨(numS n).toArray⟩) ∧ Below w.heap.size w w' := by
 have HSZ := Lib.hid (fun W => size_any n W h1 h2)
 obtain ⟨x, hx⟩ : ∃ x, x = n.natAbs := ⟨_, rfl⟩
 have hxb : x < 10 ^ 19 := by rw [hx]; show n.natAbs < 10000000000000000000; omega
 rw [← hx] at HSZ
 have HX := Lib.hid hx
 have HXB := Lib.hid hxb
 clear hx hxb h1 h2
 obtain ⟨W, hW⟩ : ∃ W, W = w.alloc (.cells (dvB (List.replicate 20 0)) 214) := ⟨_, rfl⟩
 have hR0 : Hid (RowB W w.heap.size 214 (List.replicate 20 0)) := by rw [hW]; exact heap_alloc_new w _
 have hB0 : Hid (Below w.heap.size w W) := by rw [hW]; exact (Below.refl _ _).alloc (Nat.le_refl _) _
 have HW := Lib.hid hW
 clear hW
 go_enter Tryz.func99, Tryz.ntmps99
 go_wp2_with fail
 refine (HSZ.out _).mono ?_
 rintro e w1 ⟨rfl, hw⟩
 rw [← hw]
 clear hw
 go_wp2_with fail
 have hR1 : Hid (RowB (w.alloc (.cells #[.int .u8 0, .int .u8 0, .int .u8 0, .int .u8 0, .int .u8 0, .int .u8 0, .int .u8 0, .int .u8 0, .int .u8 0, .int .u8 0, .int .u8 0, .int .u8 0, .int .u8 0, .int .u8 0, .int .u8 0, .int .u8 0, .int .u8 0, .int .u8 0, .int .u8 0, .int .u8 0] 214)) w.heap.size 214 (List.replicate 20 0)) := heap_alloc_new w _
 go_loopw [4, 5] (fun sa su wr => ∃ (k a u : Nat) (L : Bs), a + k = 20 ∧ sa = .int .i64 a ∧ su = .int .u64 u ∧ u = x / 10 ^ k ∧ L.length = 20 ∧ L.drop a = lowB k x ∧ RowB wr w.heap.size 214 L ∧ (1 < k → 0 < x / 10 ^ (k - 1)) ∧ Below w.heap.size w wr) (fun a _ _ => (intOf a).toNat)
 case atStart => exact ⟨0, 20, x, _, rfl, rfl, rfl, by rw [Nat.pow_zero, Nat.div_one], by simp, rfl, hR1.out, (fun h => by omega), (Below.refl _ _).alloc (Nat.le_refl _) _⟩
 case round =>
  obtain ⟨k, a, u, L, hak, rfl, rfl, hu, hL, hdr, hrow, hpos, hbel⟩ := hrel
  have HU := Lib.hid hu
  have HL := Lib.hid hL
  have HDR := Lib.hid hdr
  have HROW := Lib.hid hrow
  have HPOS := Lib.hid hpos
  have HBL := Lib.hid hbel
  have hgl := hrow.lt
  have hfz := hrow.frozen (a - 1)
  have hxk : ∀ j, 0 < x / 10 ^ j → j < 19 := fun j hj => by
   have h1 := (Nat.div_pos_iff.1 hj).2
   exact (Nat.pow_lt_pow_iff_right (by decide)).1 (Nat.lt_of_le_of_lt h1 HXB.out)
  have HXK := Lib.hid hxk
  have hub : u ≤ 10000000000000000000 := by
   have h1 := HXB.out
   have h2 : u ≤ x := by rw [HU.out]; exact Nat.div_le_self _ _
   have h3 : (10 : Nat) ^ 19 = 10000000000000000000 := rfl
   omega
  clear hu hL hdr hrow hpos hbel hxk
  by_cases hgo : k = 0 ∨ 0 < u
  · have hk19 : k ≤ 18 := by
     rcases hgo with h | h
     · omega
     · have := HXK.out k (by rw [← HU.out]; exact h); omega
    obtain ⟨c, hc⟩ : ∃ c : UInt8, c = UInt8.ofNat (48 + u % 10) := ⟨_, rfl⟩
    have hct : c.toNat = 48 + u % 10 := by rw [hc, UInt8.toNat_ofNat']; omega
    have E1 : Hid (48 + (u : Int) % 10 = (c.toNat : Int)) := by show _ = _; omega
    have HC := Lib.hid hc
    obtain ⟨o0, ho0⟩ : ∃ o0, L[a - 1]? = some o0 := ⟨_, List.getElem?_eq_getElem (by have := HL.out; omega)⟩
    have y0 := HROW.out.cell ho0
    have HO0 := Lib.hid ho0
    clear ho0
    have ha1 : (0 : Int) ≤ (a : Int) - 1 := by omega
    have ha2 : (a : Int) - 1 < 20 := by omega
    have ha3 : ((a : Int) - 1).toNat = a - 1 := by omega
    have ha4 : (a : Int) ≤ 20 := by omega
    clear hc hct
    have hcond : (((a : Int) == 20) = true) ∨ (((a : Int) == 20) = false ∧ (0 : Int) < (u : Int)) := by
     rcases Nat.eq_zero_or_pos k with h | h
     · left; simp; omega
     · right; exact ⟨by simp; omega, by omega⟩
    have HG := Lib.hid hgo
    clear hgo
    rcases hcond with b1 | ⟨b1, b2⟩
    all_goals
     go_wp2_with fail
     go_roundw
     case rel =>
      rw [E1.out]
      refine ⟨k + 1, a - 1, u / 10, L.set (a - 1) c, by omega, congrArg (Value.int .i64) (by omega), congrArg (Value.int .u64) (by omega), by rw [HU.out, Nat.div_div_eq_div_mul, Nat.pow_succ], by rw [List.length_set]; exact HL.out, ?_, HROW.out.set_ _ _, fun h => ?_, HBL.out.setCell (p := ⟨w.heap.size, a - 1, none⟩) (Nat.le_refl _) _⟩
      · have hla : a - 1 < L.length := by have := HL.out; omega
        rw [List.drop_eq_getElem_cons (by rw [List.length_set]; exact hla), List.getElem_set_self, List.drop_set_of_lt (by omega), show a - 1 + 1 = a from by omega, HDR.out, lowB_front, ← HU.out, ← HC.out]
      · have hk0 : k ≠ 0 := by omega
        rw [Nat.add_sub_cancel, ← HU.out]
        rcases HG.out with h9 | h9
        · exact absurd h9 hk0
        · exact h9
     case measure => first | (simp [intOf]; done) | (simp [intOf]; omega)
  · have hk0 : k ≠ 0 := fun h => hgo (.inl h)
    have hu0 : u = 0 := by rcases Nat.eq_zero_or_pos u with h | h; exact h; exact absurd (.inr h) hgo
    have hk19 : k ≤ 19 := by
     rcases Nat.lt_or_ge k 2 with h | h
     · omega
     · have := HXK.out (k - 1) (HPOS.out (by omega)); omega
    have hlow : lowB k x = decB x := decB_low k x (by rw [← HU.out]; exact hu0) (by
     rcases Nat.lt_or_ge k 2 with h | h
     · left; omega
     · right; exact ⟨by omega, HPOS.out (by omega)⟩)
    have HLOW := Lib.hid hlow
    subst hu0
    have b1 : ((a : Int) == 20) = false := by simp; omega
    clear hgo hlow
    have hcvt : ∀ (wr' : World) (b : Nat) (L' : Bs), b ≤ 20 → L'.length = 20 → RowB wr' w.heap.size 214 L' → (convert 104 9 (.slice (some ⟨w.heap.size, b, none⟩) (20 - b) (20 - b))).run Tryz.prog wr' = .ok (.string ⟨(L'.drop b).toArray⟩) wr' := by
     intro wr' b L' hb hL' hr
     have h1 := run_convert_bytes_arg wr' 104 5 Tryz.underlying104 Tryz.underlying5 w.heap.size b (20 - b) (20 - b) ((L'.drop b).map fun (c : UInt8) => (c.toNat : Int)) (by rw [List.length_map, List.length_drop]; omega) (fun i hi => by
      have hx : L'[b + i]? = some (L'[b + i]'(by omega)) := List.getElem?_eq_getElem (by omega)
      rw [hr.cell hx]
      simp [List.getD, List.getElem?_map, List.getElem?_drop, hx]) 9 Tryz.underlying9
     rw [h1]
     congr 2
     apply ByteArray.ext
     apply Array.toList_inj.1
     rw [strOfNums_data, List.map_map]
     have hid : ∀ c ∈ L'.drop b, ((fun n : Int => UInt8.ofNat n.toNat) ∘ fun c : UInt8 => (c.toNat : Int)) c = c := fun c _ => by
      show UInt8.ofNat ((c.toNat : Int)).toNat = c
      rw [Int.toNat_natCast, UInt8.ofNat_toNat]
     first
      | (rw [List.map_congr_left hid]; simp)
      | simp
    have HCV := Lib.hid hcvt
    clear hcvt
    by_cases hn : n < 0
    · obtain ⟨b, hb⟩ : ∃ b, b = a - 1 := ⟨_, rfl⟩
      obtain ⟨o0, ho0⟩ : ∃ o0, L[b]? = some o0 := ⟨_, List.getElem?_eq_getElem (by have := HL.out; omega)⟩
      have y0 := HROW.out.cell ho0
      rw [← hb] at hfz
      have e1 : (a : Int) - 1 = (b : Int) := by omega
      have hb20 : b ≤ 19 := by omega
      have hbi : (b : Int) ≤ 20 := by omega
      have hbi2 : (b : Int) < 20 := by omega
      have hcv2 := HCV.out (wr.setCell ⟨w.heap.size, b, none⟩ (.int .u8 45)) b (L.set b 45) (by omega) (by rw [List.length_set]; exact HL.out) (HROW.out.set_ b 45)
      have hres : (L.set b 45).drop b = numS n := by
       have hbl : b < (L.set b 45).length := by rw [List.length_set]; have := HL.out; omega
       rw [List.drop_eq_getElem_cons hbl, List.getElem_set_self, List.drop_set_of_lt (by omega), show b + 1 = a from by omega, HDR.out, HLOW.out]
       unfold numS
       rw [if_pos hn, HX.out]
      rw [hres] at hcv2
      have HBL2 := Lib.hid (HBL.out.setCell (p := ⟨w.heap.size, b, none⟩) (Nat.le_refl _) (.int .u8 45))
      clear ho0 hb hres HCV
      go_wp2_with fail
      go_ret
      exact ⟨rfl, HBL2.out⟩
    · have ha4 : (a : Int) ≤ 20 := by omega
      have hcv2 := HCV.out wr a L (by omega) HL.out HROW.out
      have hres : L.drop a = numS n := by
       rw [HDR.out, HLOW.out]
       unfold numS
       rw [if_neg hn, HX.out]
      rw [hres] at hcv2
      clear hres HCV
      go_wp2_with fail
      go_ret
      exact ⟨rfl, HBL.out⟩
end Go.Proofs.YtnbphgeepnknlaaGreatDoor
