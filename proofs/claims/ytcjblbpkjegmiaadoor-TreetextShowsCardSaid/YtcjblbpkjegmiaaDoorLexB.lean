/- Walks of the reference: starts, the rows, white space. -/
import Derived.Test.YtcjblbpkjegmiaaDoorLex8
namespace Go.Proofs.YtcjblbpkjegmiaaDoor
open Go.RowKit
set_option linter.unusedVariables false

theorem fit_prefix {s x : ByteArray} {p : Nat} (hp : p ≤ s.size) : (bs x).isPrefixOf ((bs s).drop p) = true ↔ p + x.size ≤ s.size ∧ s.extract p (p + x.size) = x := by
  constructor
  · intro h
    have h1 := List.isPrefixOf_iff_prefix.1 h
    have h2 := h1.length_le
    rw [List.length_drop, bs_length, bs_length] at h2
    refine ⟨by omega, bs_ext ?_⟩
    rw [bs_extract]
    have h3 := List.prefix_iff_eq_take.1 h1
    rw [bs_length] at h3
    rw [List.drop_take] at *
    rw [show p + x.size - p = x.size by omega]
    exact h3.symm
  · rintro ⟨h1, h2⟩
    have h3 : bs (s.extract p (p + x.size)) = bs x := by rw [h2]
    rw [bs_extract] at h3
    rw [List.isPrefixOf_iff_prefix, ← h3, List.drop_take]
    exact List.take_prefix _ _

theorem toList_ne {a b : ByteArray} (h : ¬ a = b) : (a.toList == b.toList) = false := by
  rw [ByteArray.toList_eq, ByteArray.toList_eq, beq_eq_false_iff_ne]
  exact fun h' => h (bs_ext h')



/-- The bytes that a row takes. -/
def rowP (digits : Bool) : UInt8 → Bool := if digits then isDigit else isInside

set_option maxRecDepth 100000 in
set_option maxHeartbeats 2000000 in
theorem rrow_any (s : ByteArray) (p : Nat) (d : Bool) (w : World) (hs : s.size ≤ 1000000) (hp : p ≤ s.size) :
    Calls Tryd.prog 43 #[.string s, .int .i64 p, .bool d] w fun e w' => e = .returned (.int .i64 (p + rowLen (rowP d) ((bs s).drop p) : Nat)) ∧ w = w' := by
  obtain ⟨r, hr⟩ : ∃ r, r = p + rowLen (rowP d) ((bs s).drop p) := ⟨_, rfl⟩
  rw [← hr]
  have HR := Lib.hid hr
  clear hr
  go_enter Tryd.func43, Tryd.ntmps43
  go_wp2
  go_loop [1] (fun n => ∃ k : Nat, k ≤ s.size ∧ n = .int .i64 k ∧ r = k + rowLen (rowP d) ((bs s).drop k)) (fun n => s.size - (intOf n).toNat)
  case atStart => exact ⟨p, hp, rfl, HR.out⟩
  case round =>
    obtain ⟨k, hk, rfl, heq⟩ := hrel
    have HE := Lib.hid heq
    clear heq
    by_cases hlt : k < s.size
    · have hlt' : (k : Int) < (s.size : Int) := by omega
      have hd := drop_cons (bs_get hlt)
      have HD := Lib.hid hd
      clear hd
      have HL := Lib.hid (rletter_any s[k])
      have HG := Lib.hid (rdigit_any s[k])
      have stop : Hid (rowP d s[k] = false → r = k) := fun h => by rw [HE.out, HD.out, rowLen_cons_false h]; rfl
      have more : Hid (rowP d s[k] = true → r = k + 1 + rowLen (rowP d) ((bs s).drop (k + 1))) := fun h => by rw [HE.out, HD.out, rowLen_cons_true h]; omega
      have hb : s[k].toNat < 256 := s[k].toNat_lt
      cases hg : isDigit s[k]
      · rw [hg] at HG
        cases d
        · cases hl : isLetter s[k]
          · rw [hl] at HL
            by_cases h95 : s[k].toNat = 95
            · have HM := Lib.hid (more.out (by unfold rowP isInside; simp [h95]))
              have HL9 := Lib.hid (show ∀ w, Calls Tryd.prog 42 #[.int .u8 95] w fun e w' => e = .returned (.bool false) ∧ w = w' from fun w => by have h9 := HL.out w; rw [h95] at h9; exact h9)
              have HG9 := Lib.hid (show ∀ w, Calls Tryd.prog 64 #[.int .u8 95] w fun e w' => e = .returned (.bool false) ∧ w = w' from fun w => by have h9 := HG.out w; rw [h95] at h9; exact h9)
              clear stop more hg hl
              go_wp2_with (first | (go_at_call 42; refine (HL9.out _).mono ?_; rintro e w' ⟨rfl, rfl⟩) | (go_at_call 64; refine (HG9.out _).mono ?_; rintro e w' ⟨rfl, rfl⟩))
              go_round
              case rel => exact ⟨k + 1, by omega, by go_num, HM.out⟩
              case measure => simp [intOf]; omega
            · have HM := Lib.hid (stop.out (by unfold rowP isInside; simp [h95, hg, hl]))
              clear stop more hg hl
              have h95' : ¬ ((s[k].toNat : Int) = 95) := by omega
              go_wp2_with (first | (go_at_call 42; refine (HL.out _).mono ?_; rintro e w' ⟨rfl, rfl⟩) | (go_at_call 64; refine (HG.out _).mono ?_; rintro e w' ⟨rfl, rfl⟩))
              go_ret
              exact ⟨by rw [HM.out]; rfl, rfl⟩
          · rw [hl] at HL
            have HM := Lib.hid (more.out (by unfold rowP; exact inside_letter hl))
            clear stop more hg hl
            go_wp2_with (first | (go_at_call 42; refine (HL.out _).mono ?_; rintro e w' ⟨rfl, rfl⟩) | (go_at_call 64; refine (HG.out _).mono ?_; rintro e w' ⟨rfl, rfl⟩))
            go_round
            case rel => exact ⟨k + 1, by omega, by go_num, HM.out⟩
            case measure => simp [intOf]; omega
        · have HM := Lib.hid (stop.out (by unfold rowP; exact hg))
          clear stop more hg
          go_wp2_with (first | (go_at_call 42; refine (HL.out _).mono ?_; rintro e w' ⟨rfl, rfl⟩) | (go_at_call 64; refine (HG.out _).mono ?_; rintro e w' ⟨rfl, rfl⟩))
          go_ret
          exact ⟨by rw [HM.out]; rfl, rfl⟩
      · rw [hg] at HG
        have HM := Lib.hid (more.out (by cases d <;> unfold rowP isInside <;> simp [hg]))
        clear stop more hg
        go_wp2_with (first | (go_at_call 42; refine (HL.out _).mono ?_; rintro e w' ⟨rfl, rfl⟩) | (go_at_call 64; refine (HG.out _).mono ?_; rintro e w' ⟨rfl, rfl⟩))
        go_round
        case rel => exact ⟨k + 1, by omega, by go_num, HM.out⟩
        case measure => simp [intOf]; omega
    · have hlt' : ¬ (k : Int) < (s.size : Int) := by omega
      have h0 : (bs s).drop k = [] := List.drop_eq_nil_of_le (by rw [bs_length]; omega)
      have HM := Lib.hid (show r = k from by rw [HE.out, h0]; rfl)
      clear h0
      go_wp2
      go_ret
      exact ⟨by rw [HM.out]; rfl, rfl⟩
end Go.Proofs.YtcjblbpkjegmiaaDoor
