/- Plain words: decimal digits, one by one. The plain reference's numbers: ref01.size, digits, Text. -/
import Derived.Test.YtnbphgeepnknlaaDoorQNumA
import Derived.Test.YtnbphgeepnknlaaDoorQTrmI
import Derived.Laws.IdiomStrings
import Derived.Test.YtnbphgeepnknlaaDoorQLexB
namespace Go.Proofs.YtnbphgeepnknlaaDoor
set_option linter.unusedVariables false

theorem decB_step {x : Nat} (h : 10 ≤ x) : decB x = decB (x / 10) ++ [UInt8.ofNat (48 + x % 10)] := by
  have hx : x ≠ 0 := by omega
  have hx2 : x / 10 ≠ 0 := by omega
  unfold decB
  rw [if_neg hx, if_neg hx2, digs_pos (by decide) hx, List.reverse_cons, List.map_append]
  rfl
theorem decB_one {x : Nat} (h : x < 10) : decB x = [UInt8.ofNat (48 + x)] := by
  have : x = 0 ∨ x = 1 ∨ x = 2 ∨ x = 3 ∨ x = 4 ∨ x = 5 ∨ x = 6 ∨ x = 7 ∨ x = 8 ∨ x = 9 := by omega
  rcases this with rfl | rfl | rfl | rfl | rfl | rfl | rfl | rfl | rfl | rfl <;> rfl
theorem dig_toNat (d : Nat) (h : d < 10) : (UInt8.ofNat (48 + d)).toNat = 48 + d := by
  rw [UInt8.toNat_ofNat']
  exact Nat.mod_eq_of_lt (by omega)
end Go.Proofs.YtnbphgeepnknlaaDoor
namespace Go.Proofs.YtnbphgeepnknlaaDoor
open Go.RowKit
set_option linter.unusedVariables false

set_option maxRecDepth 100000 in
theorem rsize_any (x : Int) (w : World) (h1 : -9223372036854775808 ≤ x) (h2 : x ≤ 9223372036854775807) :
    Calls Tryd.prog 67 #[.int .i64 x] w fun e w' => e = .returned (.int .u64 (x.natAbs : Int)) ∧ w' = w := by
  go_enter Tryd.func67, Tryd.ntmps67
  by_cases hx : 0 ≤ x
  · have hx' : (x.natAbs : Int) = x := by omega
    go_wp2_with fail
    go_ret
    exact ⟨by rw [hx']; rfl, rfl⟩
  · have hx' : (x.natAbs : Int) = -(x + 1) + 1 := by omega
    go_wp2_with fail
    go_ret
    exact ⟨rfl, rfl⟩
theorem conv1 (w w' : World) (b : UInt8) (z : Int) (hz : z = (b.toNat : Int)) (hw : w' = w.alloc (.cells #[.int .u8 z] 5)) :
    (convert 39 9 (.slice (some ⟨w.heap.size, 0, none⟩) 1 1)).run Tryd.prog w' = .ok (.string ⟨#[b]⟩) w' := by
  subst hw
  refine run_convert_bytes_back (l := [b]) _ 39 9 5 ⟨w.heap.size, 0, none⟩ 1 Tryd.underlying39 Tryd.underlying5 Tryd.underlying9 fun j hj => ?_
  have : j = 0 := by simpa using hj
  subst this
  show World.cell? _ ⟨w.heap.size, 0 + 0, none⟩ = _
  rw [cell_of_row _ w.heap.size _ _ 5 (0, 0) (heap_alloc_new w _), hz]
  rfl
def emp : Value → Nat
  | .string s => if s.size = 0 then 1 else 0
  | _ => 0
theorem emp_pos {s : ByteArray} (h : 0 < s.size) : emp (.string s) = 0 := by
  show (if s.size = 0 then 1 else 0) = 0
  exact if_neg (by omega)
theorem emp_le (v : Value) : emp v ≤ 1 := by
  unfold emp
  split
  · split <;> omega
  · omega
theorem bs_app (a b : ByteArray) : bs (a ++ b) = bs a ++ bs b := by unfold bs; simp
theorem bs_back (a : ByteArray) : (⟨(bs a).toArray⟩ : ByteArray) = a := rfl
set_option maxRecDepth 100000 in
set_option maxHeartbeats 4000000 in
theorem rdigits_any (x : Nat) (w : World) (hx : x < 18446744073709551616) :
    Calls Tryd.prog 66 #[.int .u64 x] w fun e w' => e = .returned (.string ⟨(decB x).toArray⟩) ∧ Below w.heap.size w w' := by
  obtain ⟨F, hF⟩ : ∃ F : Ending → World → Prop, F = fun e w' => e = .returned (.string ⟨(decB x).toArray⟩) ∧ Below w.heap.size w w' := ⟨_, rfl⟩
  rw [← hF]
  have HF := Lib.hid hF
  clear hF
  go_enter Tryd.func66, Tryd.ntmps66
  go_wp2_with fail
  go_loopw [0, 3] (fun sx ss wr => ∃ (n : Nat) (s : ByteArray), sx = .int .u64 n ∧ ss = .string s ∧ n ≤ x ∧ ((s = ⟨#[]⟩ ∧ n = x) ∨ (0 < s.size ∧ ((n = 0 ∧ decB x = bs s) ∨ (10 ≤ n ∧ decB x = decB n ++ bs s)))) ∧ Below w.heap.size w wr) (fun x s _ => (intOf x).toNat + emp s)
  case atStart => exact ⟨x, ⟨#[]⟩, rfl, rfl, Nat.le_refl _, .inl ⟨rfl, rfl⟩, Below.refl _ _⟩
  case round =>
    obtain ⟨n, s, rfl, rfl, hn, hcase, hbel⟩ := hrel
    have HBL := Lib.hid hbel
    have hs := hbel.size
    clear hbel
    have hz : (48 + (n : Int) % 10) = ((UInt8.ofNat (48 + n % 10)).toNat : Int) := by rw [dig_toNat _ (by omega)]; omega
    have HZ := Lib.hid hz
    clear hz
    have hsz : s.size ≤ 20 := by
      have hl := decB_len x (by omega)
      have e : s.size = (bs s).length := by unfold bs; simp
      rcases hcase with ⟨h1, h2⟩ | ⟨h1, ⟨h2, h3⟩ | ⟨h2, h3⟩⟩
      · rw [h1]; decide
      · rw [h3] at hl; omega
      · rw [h3, List.length_append] at hl; omega
    obtain ⟨c, hc⟩ : ∃ c, c = UInt8.ofNat (48 + n % 10) := ⟨_, rfl⟩
    by_cases hgo : 9 < n ∨ s = ⟨#[]⟩
    · have HX : Hid (if n < 10 then decB x = [c] ∧ s = ⟨#[]⟩ else decB x = decB (n / 10) ++ (c :: bs s)) := by
        show ite _ _ _
        by_cases h10 : n < 10
        · rw [if_pos h10]
          have he : s = ⟨#[]⟩ := by rcases hgo with h | h; omega; exact h
          rcases hcase with ⟨h1, h2⟩ | ⟨h1, h2⟩
          · exact ⟨by rw [← h2, decB_one h10, hc, show n % 10 = n by omega], he⟩
          · rw [he] at h1; exact absurd h1 (by decide)
        · rw [if_neg h10]
          rcases hcase with ⟨h1, h2⟩ | ⟨h1, ⟨h2, h3⟩ | ⟨h2, h3⟩⟩
          · rw [← h2, decB_step (by omega), h1, hc]; rfl
          · omega
          · rw [h3, decB_step (by omega), hc]; simp
      have HG : Hid (n < 10 → s = ⟨#[]⟩) := fun h => by rcases hgo with h1 | h1; omega; exact h1
      have HC := Lib.hid hc
      clear hgo hcase hc
      by_cases h10 : n < 10
      · have he := HG.out h10
        subst he
        have HXX : Hid (decB x = [c]) := by have := HX.out; rw [if_pos h10] at this; exact this.1
        have hd0 : (n : Int) / 10 = 0 := by omega
        have h9' : ¬ (9 : Int) < (n : Int) := by omega
        clear HX HG
        go_wp2_with fail
        rw [conv1 wr _ (UInt8.ofNat (48 + n % 10)) _ HZ.out rfl, ← HC.out]
        go_wp2_with fail
        go_roundw
        case rel =>
          exact ⟨0, ⟨#[c]⟩, by go_num, rfl, by omega, .inr ⟨Nat.zero_lt_one, .inl ⟨rfl, HXX.out⟩⟩, HBL.out.alloc hs _⟩
        case measure =>
          simp only [intOf]
          show (0 : Int).toNat + 0 < _ + 1
          omega
      · have HXX : Hid (decB x = decB (n / 10) ++ (c :: bs s)) := by have := HX.out; rw [if_neg h10] at this; exact this
        have h9' : (9 : Int) < (n : Int) := by omega
        have hd0 : 0 < (n : Int) / 10 := by omega
        clear HX HG
        by_cases h100 : n < 100
        · have hd1 : (n : Int) / 10 < 10 := by omega
          have hz2 : (48 + (n : Int) / 10) = ((UInt8.ofNat (48 + n / 10)).toNat : Int) := by rw [dig_toNat _ (by omega)]; omega
          have HZ2 := Lib.hid hz2
          obtain ⟨c2, hc2⟩ : ∃ c2, c2 = UInt8.ofNat (48 + n / 10) := ⟨_, rfl⟩
          have HD2 : Hid (decB (n / 10) = [c2]) := by show _ = _; rw [hc2]; exact decB_one (by omega)
          have HC2 := Lib.hid hc2
          clear hz2 hc2
          go_wp2_with fail
          rw [conv1 wr _ (UInt8.ofNat (48 + n % 10)) _ HZ.out rfl, ← HC.out]
          go_wp2_with fail
          rw [show wr.heap.size + 1 = (wr.alloc (.cells #[.int .u8 (48 + (n : Int) % 10)] 5)).heap.size by simp, conv1 _ _ (UInt8.ofNat (48 + n / 10)) _ HZ2.out rfl, ← HC2.out]
          go_wp2_with fail
          rw [HF.out]
          refine ⟨?_, (HBL.out.alloc hs _).alloc (by simp; omega) _⟩
          show Ending.returned (Value.string (⟨#[c2]⟩ ++ (⟨#[c]⟩ ++ s))) = _
          rw [HXX.out, HD2.out]
          congr 2
        · have hd1 : ¬ (n : Int) / 10 < 10 := by omega
          go_wp2_with fail
          rw [conv1 wr _ (UInt8.ofNat (48 + n % 10)) _ HZ.out rfl, ← HC.out]
          go_wp2_with fail
          go_roundw
          case rel =>
            exact ⟨n / 10, ⟨#[c]⟩ ++ s, by go_num, rfl, by omega, .inr ⟨by rw [ByteArray.size_append]; exact Nat.lt_of_lt_of_le Nat.zero_lt_one (Nat.le_add_right _ _), .inr ⟨by omega, by rw [HXX.out, bs_app]; rfl⟩⟩, HBL.out.alloc hs _⟩
          case measure =>
            have h1 := emp_le (.string (⟨#[c]⟩ ++ s))
            simp only [intOf]
            omega
    · have hne : s.toList.isEmpty = false := by
        rw [ByteArray.toList_eq]
        cases hl : s.data.toList with
        | nil => exact absurd (Or.inr (bs_ext (by show s.data.toList = []; exact hl))) hgo
        | cons _ _ => rfl
      have h9' : ¬ (9 : Int) < (n : Int) := by omega
      have HX : Hid (decB x = bs s) := by
        rcases hcase with ⟨h1, h2⟩ | ⟨h1, ⟨h2, h3⟩ | ⟨h2, h3⟩⟩
        · exact absurd (Or.inr h1) hgo
        · exact h3
        · exact absurd (Or.inl (by omega)) hgo
      clear hcase hgo hc
      go_wp2_with fail
      rw [HF.out]
      exact ⟨by rw [HX.out, bs_back], HBL.out⟩
set_option maxRecDepth 100000 in
theorem rtext1_any (x : Int) (w : World) (h1 : -9223372036854775808 ≤ x) (h2 : x ≤ 9223372036854775807) :
    Calls Tryd.prog 52 #[.int .i64 x] w fun e w' => e = .returned (.string ⟨(numS x).toArray⟩) ∧ Below w.heap.size w w' := by
  have HSZ := Lib.hid (rsize_any x w h1 h2)
  have HDG := Lib.hid (rdigits_any x.natAbs w (by omega))
  have hlen := decB_len x.natAbs (by omega)
  obtain ⟨S, hS⟩ : ∃ S : ByteArray, S = ⟨(decB x.natAbs).toArray⟩ := ⟨_, rfl⟩
  have hsz : S.size ≤ 20 := by rw [hS]; exact hlen
  rw [← hS] at HDG
  have HS := Lib.hid hS
  clear hS hlen
  go_enter Tryd.func52, Tryd.ntmps52
  by_cases hx : x < 0
  · have HR : Hid ((numS x) = 45 :: bs S) := by show _ = _; unfold numS; rw [if_pos hx, HS.out]; simp [bs]
    go_wp2_with fail
    refine HSZ.out.mono ?_
    rintro e w1 ⟨rfl, hw1⟩
    rw [hw1]
    clear hw1
    go_wp2_with fail
    refine HDG.out.mono ?_
    rintro e w2 ⟨rfl, hb2⟩
    have HB2 := Lib.hid hb2
    clear hb2
    go_wp2_with fail
    go_ret
    refine ⟨?_, HB2.out⟩
    show Ending.returned (Value.string (⟨#[45]⟩ ++ S)) = _
    rw [HR.out]
    congr 2
  · have HR : Hid (numS x = bs S) := by show _ = _; unfold numS; rw [if_neg hx, HS.out]; simp [bs]
    go_wp2_with fail
    refine HSZ.out.mono ?_
    rintro e w1 ⟨rfl, hw1⟩
    rw [hw1]
    clear hw1
    go_wp2_with fail
    refine HDG.out.mono ?_
    rintro e w2 ⟨rfl, hb2⟩
    have HB2 := Lib.hid hb2
    clear hb2
    go_wp2_with fail
    go_ret
    refine ⟨?_, HB2.out⟩
    show Ending.returned (Value.string S) = _
    rw [HR.out]
    rfl
end Go.Proofs.YtnbphgeepnknlaaDoor
