/- Walk of the reference: white space. -/
import Derived.Test.YtnhabokkjmcdoaaDoorLexB
namespace Go.Proofs.YtnhabokkjmcdoaaDoor
open Go.RowKit
set_option linter.unusedVariables false

set_option maxRecDepth 100000 in
set_option maxHeartbeats 2000000 in
theorem rblank_any (s : ByteArray) (p : Nat) (w : World) (hs : s.size ≤ 1000000) (hp : p ≤ s.size) :
    Calls Tryd.prog 22 #[.string s, .int .i64 p] w fun e w' => e = .returned (.int .i64 (s.size - (blank ((bs s).drop p)).length : Nat)) ∧ w = w' := by
  obtain ⟨r, hr⟩ : ∃ r, r = s.size - (blank ((bs s).drop p)).length := ⟨_, rfl⟩
  rw [← hr]
  have HR := Lib.hid hr
  clear hr
  have HST := Lib.hid (fun (k : Nat) (hk : k ≤ s.size) => starts_any s ⟨#[45, 45]⟩ k w hs (by decide) hk)
  go_enter Tryd.func22, Tryd.ntmps22
  go_wp2
  go_loop [1] (fun n => ∃ k : Nat, k ≤ s.size ∧ n = .int .i64 k ∧ blank ((bs s).drop p) = blank ((bs s).drop k)) (fun n => s.size - (intOf n).toNat)
  case atStart => exact ⟨p, hp, rfl, rfl⟩
  case round =>
    obtain ⟨k, hk, rfl, heq⟩ := hrel
    have HE := Lib.hid heq
    clear heq
    by_cases hlt : k < s.size
    · have hlt' : (k : Int) < (s.size : Int) := by omega
      have hd := drop_cons (bs_get hlt)
      have HD := Lib.hid hd
      clear hd
      have HS := Lib.hid (HST.out k hk)
      have hb : s[k].toNat < 256 := s[k].toNat_lt
      cases hds : dashes ((bs s).drop k)
      · have hds' : (bs ⟨#[45, 45]⟩).isPrefixOf ((bs s).drop k) = false := hds
        rw [hds'] at HS
        have HDS := Lib.hid hds
        clear hds hds'
        cases hw : isWs s[k]
        · have hno : blank ((bs s).drop k) = (bs s).drop k := by
            rw [HD.out]
            exact blank_stop hw (by rw [← HD.out]; exact HDS.out)
          have HM := Lib.hid (show r = k from by rw [HR.out, HE.out, hno, List.length_drop, bs_length]; omega)
          unfold isWs at hw
          have h1 : ¬ s[k].toNat = 32 := by intro h; simp [h] at hw
          have h2 : ¬ s[k].toNat = 9 := by intro h; simp [h] at hw
          have h3 : ¬ s[k].toNat = 10 := by intro h; simp [h] at hw
          have h4 : ¬ s[k].toNat = 13 := by intro h; simp [h] at hw
          have i1 : ((s[k].toNat : Int) != 32) = true := by simp; omega
          have i2 : ((s[k].toNat : Int) != 9) = true := by simp; omega
          have i3 : ((s[k].toNat : Int) != 10) = true := by simp; omega
          have i4 : ((s[k].toNat : Int) != 13) = true := by simp; omega
          clear hno hw h1 h2 h3 h4
          go_wp2_with fail
          refine (HS.out).mono ?_
          rintro e w' ⟨rfl, hw⟩
          rw [← hw]
          clear hw
          go_wp2
          go_ret
          exact ⟨by rw [HM.out]; rfl, rfl⟩
        · have HM := Lib.hid (show blank ((bs s).drop p) = blank ((bs s).drop (k + 1)) from by rw [HE.out, HD.out]; exact blank_ws hw)
          unfold isWs at hw
          have hor : s[k].toNat = 32 ∨ s[k].toNat = 9 ∨ s[k].toNat = 10 ∨ s[k].toNat = 13 := by simp at hw; omega
          clear hw
          rcases hor with h | h | h | h
          all_goals
            go_wp2_with fail
            refine (HS.out).mono ?_
            rintro e w' ⟨rfl, hw⟩
            rw [← hw]
            clear hw
            go_wp2
            exact ⟨⟨k + 1, by omega, by go_num, HM.out⟩, by simp [intOf]; omega⟩
      · have hds' : (bs ⟨#[45, 45]⟩).isPrefixOf ((bs s).drop k) = true := hds
        rw [hds'] at HS
        have hcl := comment_len hds
        rw [List.length_drop, bs_length] at hcl
        have HM := Lib.hid (show blank ((bs s).drop p) = blank (((bs s).drop k).dropWhile notNl) from by rw [HE.out]; exact blank_comment hds)
        clear hds hds'
        go_wp2_with fail
        refine (HS.out).mono ?_
        rintro e w' ⟨rfl, hw⟩
        rw [← hw]
        clear hw
        go_wp2
        go_loop [1] (fun n => ∃ j : Nat, k ≤ j ∧ j ≤ s.size ∧ n = .int .i64 j ∧ ((bs s).drop k).dropWhile notNl = ((bs s).drop j).dropWhile notNl) (fun n => s.size - (intOf n).toNat)
        case atStart => exact ⟨k, Nat.le_refl _, hk, rfl, rfl⟩
        case round =>
          obtain ⟨j, hj, hj2, rfl, heq⟩ := hrel
          have HF := Lib.hid heq
          clear heq
          by_cases hjl : j < s.size
          · have hjl' : (j : Int) < (s.size : Int) := by omega
            have hd := drop_cons (bs_get hjl)
            have HDJ := Lib.hid hd
            clear hd
            have hb : s[j].toNat < 256 := s[j].toNat_lt
            by_cases h10 : s[j].toNat = 10
            · have hst : ((bs s).drop j).dropWhile notNl = (bs s).drop j := by
                rw [HDJ.out, List.dropWhile_cons_of_neg (by unfold notNl; simp [h10])]
              have hj3 : k < j := by
                have h9 : (((bs s).drop k).dropWhile notNl).length = s.size - j := by rw [HF.out, hst, List.length_drop, bs_length]
                omega
              have HN := Lib.hid (show blank ((bs s).drop p) = blank ((bs s).drop j) from by rw [HM.out, HF.out, hst])
              clear hst
              go_wp2
              go_round
              case rel => exact ⟨j, by omega, rfl, HN.out⟩
              case measure => simp [intOf]; omega
            · have h10' : ¬ (s[j].toNat : Int) = 10 := by omega
              have HN := Lib.hid (show ((bs s).drop k).dropWhile notNl = ((bs s).drop (j + 1)).dropWhile notNl from by
                rw [HF.out, HDJ.out, List.dropWhile_cons_of_pos (by unfold notNl; simp [h10])])
              clear h10
              go_wp2
              go_round
              case rel => exact ⟨j + 1, by omega, by omega, by go_num, HN.out⟩
              case measure => simp [intOf]; omega
          · have hjl' : ¬ (j : Int) < (s.size : Int) := by omega
            have hje : j = s.size := by omega
            have h0 : (bs s).drop j = [] := List.drop_eq_nil_of_le (by rw [bs_length]; omega)
            have HN := Lib.hid (show blank ((bs s).drop p) = blank ((bs s).drop j) from by rw [HM.out, HF.out, h0]; rfl)
            clear h0 hje
            go_wp2
            go_round
            case rel => exact ⟨j, by omega, rfl, HN.out⟩
            case measure => simp [intOf]; omega
    · have hlt' : ¬ (k : Int) < (s.size : Int) := by omega
      have h0 : (bs s).drop k = [] := List.drop_eq_nil_of_le (by rw [bs_length]; omega)
      have HM := Lib.hid (show r = k from by rw [HR.out, HE.out, h0]; simp [blank_nil]; omega)
      clear h0
      go_wp2
      go_ret
      exact ⟨by rw [HM.out]; rfl, rfl⟩
end Go.Proofs.YtnhabokkjmcdoaaDoor
