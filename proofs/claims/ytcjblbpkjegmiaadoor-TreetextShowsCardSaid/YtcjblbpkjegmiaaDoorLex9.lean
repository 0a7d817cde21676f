/- Walks: whether a text is a name, the keywords, all tokens. -/
import Derived.Test.YtcjblbpkjegmiaaDoorLex8
namespace Go.Proofs.YtcjblbpkjegmiaaDoor
open Go.RowKit
set_option linter.unusedVariables false



theorem isName_false1 {l : Bs} (h : l = []) : isName l = false := by subst h; rfl
theorem isName_form {l : Bs} (h : l ≠ []) : isName l = (decide (l.length ≤ 24) && isLetter (l.headD 0) && decide (rowLen isInside l = l.length) && !isWord l) := by
  unfold isName
  simp [h]

/-- The lexer's table of words lies in the world. -/
structure WordsT (w : World) : Prop where
  size : 0 < w.heap.size
  words : ∀ j, j < 24 → w.cell? ⟨0, j, none⟩ = some (.string (wordL.getD j ByteArray.empty))
theorem WordsT.below {w w' : World} (h : WordsT w) (hb : Below w.heap.size w w') : WordsT w' :=
  ⟨Nat.lt_of_lt_of_le h.size hb.size, fun j hj => by rw [hb.cell (p := ⟨0, j, none⟩) h.size]; exact h.words j hj⟩
theorem Tables.wordsT {w : World} (h : Tables w) : WordsT w := ⟨by have := h.size; show 0 < _; omega, h.words⟩

set_option maxHeartbeats 2000000 in
theorem isw_any (s : ByteArray) (w : World) (hs : s.size ≤ maxLen) (hT : WordsT w) : Calls Tryd.prog 68 #[.string s] w fun e w' => e = .returned (.bool (isName (bs s))) ∧ w = w' := by
  have hs' := hs
  unfold maxLen at hs'
  have HT := Lib.hid hT
  clear hT
  by_cases h0 : 0 < s.size
  · have hne := bs_ne h0
    have hd0 := drop_cons (bs_get h0)
    rw [List.drop_zero] at hd0
    have hnm := isName_form (l := bs s) (by rw [hd0]; simp)
    rw [bs_length, show (bs s).headD 0 = s[0] from by rw [hd0]; rfl] at hnm
    have HN := Lib.hid hnm
    clear hnm hd0
    have hrow := row_inside s
    have HROW := Lib.hid hrow
    clear hrow
    have hct := Tryd.slices_Contains_string 0 0 24 24 wordL s w (by decide) (by decide) (fun j hj => by rw [Nat.zero_add]; exact HT.out.words j hj)
    rw [show Lib.containsS (wordL.take 24) s = isWord (bs s) from by
      unfold isWord
      rw [show wordL.take 24 = wordL from rfl, show (⟨(bs s).toArray⟩ : ByteArray) = s from bs_ext rfl]] at hct
    have HC := Lib.hid hct
    clear hct
    by_cases h24 : s.size ≤ 24
    · have h24' : (s.size : Int) ≤ 24 := by omega
      have HL := Lib.hid (letter_any s[0])
      cases hle : isLetter s[0]
      · rw [hle] at HL
        have HV := Lib.hid (show isName (bs s) = false from by rw [HN.out, hle]; simp)
        clear hle
        go_enter Tryd.func68, Tryd.ntmps68
        go_wp2_with fail
        refine (HL.out _).mono ?_
        rintro e w3 ⟨rfl, hw⟩
        rw [← hw]
        clear hw
        go_wp2
        go_ret
        exact ⟨by rw [HV.out]; rfl, rfl⟩
      · rw [hle] at HL
        by_cases hr : rowLen isInside (bs s) = s.size
        · have HV := Lib.hid (show isName (bs s) = !isWord (bs s) from by rw [HN.out, hle, hr]; simp [h24])
          rw [hr] at HROW
          clear hle hr
          cases hw : isWord (bs s)
          all_goals
            rw [hw] at HC HV
            clear hw
            go_enter Tryd.func68, Tryd.ntmps68
            go_wp2_with fail
            refine (HL.out _).mono ?_
            rintro e w3 ⟨rfl, hw⟩
            rw [← hw]
            clear hw
            go_wp2_with fail
            refine (HROW.out _ (by unfold maxLen; omega)).mono ?_
            rintro e w3 ⟨rfl, hw⟩
            rw [← hw]
            clear hw
            go_wp2_with fail
            refine (HC.out).mono ?_
            rintro e w3 ⟨rfl, hw⟩
            rw [hw]
            clear hw
            go_wp2
            go_ret
            exact ⟨by rw [HV.out]; rfl, rfl⟩
        · have HV := Lib.hid (show isName (bs s) = false from by rw [HN.out]; simp [hr])
          obtain ⟨n, hn⟩ : ∃ n, n = rowLen isInside (bs s) := ⟨_, rfl⟩
          rw [← hn] at HROW hr
          clear hn hle
          have hr' : ¬ (n : Int) = (s.size : Int) := by omega
          go_enter Tryd.func68, Tryd.ntmps68
          go_wp2_with fail
          refine (HL.out _).mono ?_
          rintro e w3 ⟨rfl, hw⟩
          rw [← hw]
          clear hw
          go_wp2_with fail
          refine (HROW.out _ (by unfold maxLen; omega)).mono ?_
          rintro e w3 ⟨rfl, hw⟩
          rw [← hw]
          clear hw
          go_wp2
          go_ret
          exact ⟨by rw [HV.out]; rfl, rfl⟩
    · have HV := Lib.hid (show isName (bs s) = false from by rw [HN.out]; simp [h24])
      have h24' : ¬ (s.size : Int) ≤ 24 := by omega
      clear h24
      go_enter Tryd.func68, Tryd.ntmps68
      go_wp2
      go_ret
      exact ⟨by rw [HV.out]; rfl, rfl⟩
  · have hnil : bs s = [] := List.eq_nil_of_length_eq_zero (by rw [bs_length]; omega)
    have hte : s = ⟨#[]⟩ := bs_ext hnil
    rw [isName_false1 hnil]
    subst hte
    clear hnil h0 hs hs'
    go_enter Tryd.func68, Tryd.ntmps68
    go_wp2
    go_ret
    exact ⟨rfl, rfl⟩
theorem is_any (s : ByteArray) (w : World) (hs : s.size ≤ maxLen) (hT : Tables w) : Calls Tryd.prog 68 #[.string s] w fun e w' => e = .returned (.bool (isName (bs s))) ∧ w = w' := isw_any s w hs hT.wordsT
end Go.Proofs.YtcjblbpkjegmiaaDoor
