/- Walks: letters, digits, the bytes of names. -/
import Derived.Test.YtcjblbpkjegmiaaDoorLex
import Derived.WalkKit
import Derived.WalkSpells
import Derived.WalkLawsBesides
import Derived.OpenShut
import Derived.BigQuiet
import Derived.Lib.Hide
import Derived.Deep.RegionHeld3
namespace Go.Proofs.YtcjblbpkjegmiaaDoor
open Go.RowKit
set_option linter.unusedVariables false

theorem letter_any (c : UInt8) (w : World) : Calls Tryd.prog 93 #[.int .u8 (c.toNat : Nat)] w fun e w' => e = .returned (.bool (isLetter c)) ∧ w = w' := by
  have hb : c.toNat < 256 := c.toNat_lt
  unfold isLetter
  generalize c.toNat = n at *
  by_cases h1 : 97 ≤ n <;> by_cases h2 : n ≤ 122 <;> by_cases h3 : 65 ≤ n <;> by_cases h4 : n ≤ 90
  all_goals first
    | (exfalso; omega)
    | (go_enter Tryd.func93, Tryd.ntmps93
       go_wp2
       go_ret
       exact ⟨by first | (simp [h1, h2, h3, h4]; done) | (simp [h1, h2, h3, h4]; omega), rfl⟩)
theorem rletter_any (c : UInt8) (w : World) : Calls Tryd.prog 42 #[.int .u8 (c.toNat : Nat)] w fun e w' => e = .returned (.bool (isLetter c)) ∧ w = w' := by
  have hb : c.toNat < 256 := c.toNat_lt
  unfold isLetter
  generalize c.toNat = n at *
  by_cases h1 : 97 ≤ n <;> by_cases h2 : n ≤ 122 <;> by_cases h3 : 65 ≤ n <;> by_cases h4 : n ≤ 90
  all_goals first
    | (exfalso; omega)
    | (go_enter Tryd.func42, Tryd.ntmps42
       go_wp2
       go_ret
       exact ⟨by first | (simp [h1, h2, h3, h4]; done) | (simp [h1, h2, h3, h4]; omega), rfl⟩)

theorem digit_any (c : UInt8) (w : World) : Calls Tryd.prog 101 #[.int .u8 (c.toNat : Nat)] w fun e w' => e = .returned (.bool (isDigit c)) ∧ w = w' := by
  have hb : c.toNat < 256 := c.toNat_lt
  unfold isDigit
  generalize c.toNat = n at *
  by_cases h1 : 48 ≤ n <;> by_cases h2 : n ≤ 57
  all_goals first
    | (exfalso; omega)
    | (go_enter Tryd.func101, Tryd.ntmps101
       go_wp2
       go_ret
       exact ⟨by first | (simp [h1, h2]; done) | (simp [h1, h2]; omega), rfl⟩)

theorem rdigit_any (c : UInt8) (w : World) : Calls Tryd.prog 64 #[.int .u8 (c.toNat : Nat)] w fun e w' => e = .returned (.bool (isDigit c)) ∧ w = w' := by
  have hb : c.toNat < 256 := c.toNat_lt
  unfold isDigit
  generalize c.toNat = n at *
  by_cases h1 : 48 ≤ n <;> by_cases h2 : n ≤ 57
  all_goals first
    | (exfalso; omega)
    | (go_enter Tryd.func64, Tryd.ntmps64
       go_wp2
       go_ret
       exact ⟨by first | (simp [h1, h2]; done) | (simp [h1, h2]; omega), rfl⟩)

theorem inside_any (c : UInt8) (w : World) : Calls Tryd.prog 95 #[.int .u8 (c.toNat : Nat)] w fun e w' => e = .returned (.bool (isInside c)) ∧ w = w' := by
  have hl := fun w => letter_any c w
  have hd := fun w => digit_any c w
  unfold isInside
  generalize isLetter c = b1 at *
  generalize isDigit c = b2 at *
  have HL := Lib.hid hl
  have HD := Lib.hid hd
  have hb : c.toNat < 256 := c.toNat_lt
  clear hl hd
  by_cases h95 : c.toNat = 95
  · have e1 : (c.toNat == 95) = true := by simpa using h95
    have e2 : ((c.toNat : Int) == 95) = true := by simp; omega
    rw [e1]
    clear h95 e1
    cases b1 <;> cases b2
    all_goals
      go_enter Tryd.func95, Tryd.ntmps95
      go_wp2_with (first | (go_at_call 93; refine (HL.out _).mono ?_; rintro e w' ⟨rfl, rfl⟩) | (go_at_call 101; refine (HD.out _).mono ?_; rintro e w' ⟨rfl, rfl⟩))
      go_ret
      exact ⟨rfl, rfl⟩
  · have e1 : (c.toNat == 95) = false := by simpa using h95
    have e2 : ((c.toNat : Int) == 95) = false := by simp; omega
    rw [e1]
    clear h95 e1
    cases b1 <;> cases b2
    all_goals
      go_enter Tryd.func95, Tryd.ntmps95
      go_wp2_with (first | (go_at_call 93; refine (HL.out _).mono ?_; rintro e w' ⟨rfl, rfl⟩) | (go_at_call 101; refine (HD.out _).mono ?_; rintro e w' ⟨rfl, rfl⟩))
      go_ret
      exact ⟨rfl, rfl⟩

/-- The length of the longest prefix whose bytes satisfy p. -/
def rowLen (p : UInt8 → Bool) (l : Bs) : Nat := (l.takeWhile p).length
theorem rowLen_le (p : UInt8 → Bool) (l : Bs) : rowLen p l ≤ l.length := by unfold rowLen; exact (List.takeWhile_prefix p).length_le
theorem rowLen_cons_true {p : UInt8 → Bool} {c : UInt8} {l : Bs} (h : p c = true) : rowLen p (c :: l) = rowLen p l + 1 := by simp [rowLen, h]
theorem rowLen_cons_false {p : UInt8 → Bool} {c : UInt8} {l : Bs} (h : p c = false) : rowLen p (c :: l) = 0 := by simp [rowLen, h]

/-- 'row' with a predicate that has a contract. -/
theorem row_with (p : UInt8 → Bool) (f : Nat) (hf : ∀ (c : UInt8) (w : World), Calls Tryd.prog f #[.int .u8 (c.toNat : Nat)] w fun e w' => e = .returned (.bool (p c)) ∧ w = w')
    (hrun : ∀ (args : Array Value) (w : World), (callFunc f args).run Tryd.prog w = .ok (.enter f args) w)
    (s : ByteArray) (w : World) (hs : s.size ≤ maxLen) :
    Calls Tryd.prog 94 #[.string s, .func (.func f) #[] #[]] w fun e w' => e = .returned (.int .i64 (rowLen p (bs s))) ∧ w = w' := by
  unfold maxLen at hs
  have HF := Lib.hid hf
  clear hf
  go_enter Tryd.func94, Tryd.ntmps94
  go_wp2
  go_loop [5] (fun n => ∃ k : Nat, k ≤ s.size ∧ n = .int .i64 k ∧ rowLen p (bs s) = k + rowLen p ((bs s).drop k)) (fun n => s.size - (intOf n).toNat)
  case atStart => exact ⟨0, Nat.zero_le _, rfl, by simp⟩
  case round =>
    obtain ⟨k, hk, rfl, heq⟩ := hrel
    have HE := Lib.hid heq
    clear heq
    by_cases hlt : k < s.size
    · have hd := drop_cons (bs_get hlt)
      have HD := Lib.hid hd
      clear hd
      cases hp : p s[k]
      · have HP := Lib.hid (rowLen_cons_false (l := (bs s).drop (k + 1)) hp)
        have HQ := Lib.hid hp
        clear hp
        go_wp2_with fail
        refine (HF.out s[k] _).mono ?_
        rw [HQ.out]
        rintro e w' ⟨rfl, rfl⟩
        go_wp2
        go_ret
        exact ⟨by rw [HE.out, HD.out, HP.out]; rfl, rfl⟩
      · have HP := Lib.hid (rowLen_cons_true (l := (bs s).drop (k + 1)) hp)
        have HQ := Lib.hid hp
        clear hp
        go_wp2_with fail
        refine (HF.out s[k] _).mono ?_
        rw [HQ.out]
        rintro e w' ⟨rfl, rfl⟩
        go_wp2
        go_round
        case rel => exact ⟨k + 1, by omega, by go_num, by rw [HE.out, HD.out, HP.out]; omega⟩
        case measure => simp [intOf]; omega
    · go_wp2
      go_ret
      have h0 : (bs s).drop k = [] := List.drop_eq_nil_of_le (by rw [bs_length]; omega)
      exact ⟨by rw [HE.out, h0]; rfl, rfl⟩

theorem row_digit (s : ByteArray) (w : World) (hs : s.size ≤ maxLen) : Calls Tryd.prog 94 #[.string s, .func (.func 101) #[] #[]] w fun e w' => e = .returned (.int .i64 (rowLen isDigit (bs s))) ∧ w = w' :=
  row_with isDigit 101 digit_any (fun _ _ => by kernel_rfl) s w hs
theorem row_inside (s : ByteArray) (w : World) (hs : s.size ≤ maxLen) : Calls Tryd.prog 94 #[.string s, .func (.func 95) #[] #[]] w fun e w' => e = .returned (.int .i64 (rowLen isInside (bs s))) ∧ w = w' :=
  row_with isInside 95 inside_any (fun _ _ => by kernel_rfl) s w hs
end Go.Proofs.YtcjblbpkjegmiaaDoor
