/- Walk: ttext's reader.unit, all paths; the parsers of all levels. -/
import Derived.Test.YtnbphgeepnknlaaGreatDoorQPrsN
namespace Go.Proofs.YtnbphgeepnknlaaGreatDoor
open Go.RowKit
set_option linter.unusedVariables false

theorem numAt_of {l : List Tok} {i : Nat} {t : Tok} (h : l[i]? = some t) : numAt l i = t.n := by unfold numAt; rw [h]
theorem textAt_of {l : List Tok} {i : Nat} {t : Tok} (h : l[i]? = some t) : textAt l i = t.text := by unfold textAt; rw [h]
theorem punit_any (R : Nat) (A : Option Addr) (c d : Nat) (l : List Tok) (T : Par) (hd : d ≤ 256) (hT : d < 256 → FnC R A c (d + 1) l 67 (.pointer (some ⟨R, 0, none⟩)) (fun _ => True) T) :
 FnC R A c d l 216 (.pointer (some ⟨R, 0, none⟩)) (fun _ => True) (unitF l (if d = 256 then none else some T)) := by
 intro i w hi hR hP _
 by_cases h1 : isTk l i 4 [45] = true
 · by_cases hk : isKd l (i + 1) 1 = true
   · obtain ⟨t, ht, hkd⟩ := isKd_some hk
     have e : unitF l (if d = 256 then none else some T) i = .ok (tmNum (-t.n)) (i + 1 + 1) := by unfold unitF; rw [if_pos h1, if_pos hk, numAt_of ht]
     rw [e]
     exact punit_minus_yes R A c d l i w h1 t ht hkd hi hR hP
   · have hk' : isKd l (i + 1) 1 = false := by simpa using hk
     have e : unitF l (if d = 256 then none else some T) i = .bad (i + 1) 16 := by unfold unitF; rw [if_pos h1, if_neg hk]
     rw [e]
     exact punit_minus_no R A c d l i w h1 hk' hi hR hP
 have g1 : isTk l i 4 [45] = false := by simpa using h1
 by_cases h2 : isTk l i 3 wTrue = true
 · have e : unitF l (if d = 256 then none else some T) i = .ok (tmBool 1) (i + 1) := by unfold unitF; rw [if_neg h1, if_pos h2]
   rw [e]
   exact punit_true R A c d l i w g1 h2 hi hR hP
 have g2 : isTk l i 3 wTrue = false := by simpa using h2
 by_cases h3 : isTk l i 3 wFalse = true
 · have e : unitF l (if d = 256 then none else some T) i = .ok (tmBool 0) (i + 1) := by unfold unitF; rw [if_neg h1, if_neg h2, if_pos h3]
   rw [e]
   exact punit_false R A c d l i w g1 g2 h3 hi hR hP
 have g3 : isTk l i 3 wFalse = false := by simpa using h3
 by_cases h4 : isTk l i 3 wNext = true
 · by_cases ho : isTk l (i + 1) 4 [40] = true
   · by_cases hk : isKd l (i + 2) 2 = true
     · obtain ⟨t, ht, hkd⟩ := isKd_some hk
       by_cases hc : isTk l (i + 3) 4 [41] = true
       · have e : unitF l (if d = 256 then none else some T) i = .ok (tmName 4 t.text) (i + 1 + 1 + 1 + 1) := by unfold unitF; rw [if_neg h1, if_neg h2, if_neg h3, if_pos h4, if_pos ho, if_pos hk, if_pos hc, textAt_of ht]
         rw [e]
         exact punit_next_yes R A c d l i w g1 g2 g3 h4 ho t ht hkd hc hi hR hP
       · have hc' : isTk l (i + 3) 4 [41] = false := by simpa using hc
         have e : unitF l (if d = 256 then none else some T) i = .bad (i + 1 + 1 + 1) 16 := by unfold unitF; rw [if_neg h1, if_neg h2, if_neg h3, if_pos h4, if_pos ho, if_pos hk, if_neg hc]
         rw [e]
         exact punit_next_no3 R A c d l i w g1 g2 g3 h4 ho t ht hkd hc' hi hR hP
     · have hk' : isKd l (i + 2) 2 = false := by simpa using hk
       have e : unitF l (if d = 256 then none else some T) i = .bad (i + 1 + 1) 16 := by unfold unitF; rw [if_neg h1, if_neg h2, if_neg h3, if_pos h4, if_pos ho, if_neg hk]
       rw [e]
       exact punit_next_no2 R A c d l i w g1 g2 g3 h4 ho hk' hi hR hP
   · have ho' : isTk l (i + 1) 4 [40] = false := by simpa using ho
     have e : unitF l (if d = 256 then none else some T) i = .bad (i + 1) 16 := by unfold unitF; rw [if_neg h1, if_neg h2, if_neg h3, if_pos h4, if_neg ho]
     rw [e]
     exact punit_next_no1 R A c d l i w g1 g2 g3 h4 ho' hi hR hP
 have g4 : isTk l i 3 wNext = false := by simpa using h4
 by_cases h5 : isTk l i 4 [40] = true
 · have e : unitF l (if d = 256 then none else some T) i = ((if d = 256 then .bad i 17 else T (i + 1)).then fun t j => if isTk l j 4 [41] then .ok t (j + 1) else .bad j 16) := by
    unfold unitF
    rw [if_neg h1, if_neg h2, if_neg h3, if_neg h4, if_pos h5]
    by_cases h : d = 256
    · simp only [h, if_true]; rfl
    · simp only [h, if_false]; rfl
   rw [e]
   exact punit_open R A c d l i w g1 g2 g3 g4 h5 T hd hT hi hR hP
 have g5 : isTk l i 4 [40] = false := by simpa using h5
 by_cases h6 : isTk l i 3 wIf = true
 · have e : unitF l (if d = 256 then none else some T) i = (if d = 256 then .bad i 17 else ch1 l T (i + 1)) := by
    unfold unitF
    rw [if_neg h1, if_neg h2, if_neg h3, if_neg h4, if_neg h5, if_pos h6]
    by_cases h : d = 256
    · simp only [h, if_true]; rfl
    · simp only [h, if_false]; rfl
   rw [e]
   exact punit_if R A c d l i w g1 g2 g3 g4 g5 h6 T hd hT hi hR hP
 have g6 : isTk l i 3 wIf = false := by simpa using h6
 by_cases h7 : isKd l i 2 = true
 · obtain ⟨t, ht, hkd⟩ := isKd_some h7
   have e : unitF l (if d = 256 then none else some T) i = .ok (tmName 3 t.text) (i + 1) := by unfold unitF; rw [if_neg h1, if_neg h2, if_neg h3, if_neg h4, if_neg h5, if_neg h6, if_pos h7, textAt_of ht]
   rw [e]
   exact punit_name R A c d l i w g1 g2 g3 g4 g5 g6 t ht hkd hi hR hP
 have g7 : isKd l i 2 = false := by simpa using h7
 by_cases h8 : isKd l i 1 = true
 · obtain ⟨t, ht, hkd⟩ := isKd_some h8
   have e : unitF l (if d = 256 then none else some T) i = .ok (tmNum t.n) (i + 1) := by unfold unitF; rw [if_neg h1, if_neg h2, if_neg h3, if_neg h4, if_neg h5, if_neg h6, if_neg h7, if_pos h8, numAt_of ht]
   rw [e]
   exact punit_num R A c d l i w g1 g2 g3 g4 g5 g6 t ht hkd hi hR hP
 have g8 : isKd l i 1 = false := by simpa using h8
 have e : unitF l (if d = 256 then none else some T) i = .bad i 16 := by unfold unitF; rw [if_neg h1, if_neg h2, if_neg h3, if_neg h4, if_neg h5, if_neg h6, if_neg h7, if_neg h8]
 rw [e]
 rcases isKd_none g7 with hge | ⟨t, ht, hk⟩
 · exact punit_end R A c d l i w g1 g2 g3 g4 g5 g6 hge g8 hi hR hP
 · exact punit_other R A c d l i w g1 g2 g3 g4 g5 g6 t ht hk g8 hi hR hP
/-- The parsers at depth d, where r levels are left. -/
structure LvlC (R : Nat) (A : Option Addr) (c d : Nat) (l : List Tok) (v : Lvl) : Prop where
 term : FnC R A c d l 67 (.pointer (some ⟨R, 0, none⟩)) (fun _ => True) v.term
 imp : FnC R A c d l 125 (.pointer (some ⟨R, 0, none⟩)) (fun _ => True) v.imp
 not : FnC R A c d l 172 (.pointer (some ⟨R, 0, none⟩)) (fun _ => True) v.not
theorem plvl_step (R : Nat) (A : Option Addr) (c d : Nat) (l : List Tok) (s : Option Lvl) (v : Lvl) (hd : d ≤ 256) (hs : s = if d = 256 then none else some v) (hv : d < 256 → LvlC R A c (d + 1) l v) : LvlC R A c d l (lvlB l s) := by
 have ht : s.map Lvl.term = if d = 256 then none else some v.term := by rw [hs]; split <;> rfl
 have hi : s.map Lvl.imp = if d = 256 then none else some v.imp := by rw [hs]; split <;> rfl
 have hn : s.map Lvl.not = if d = 256 then none else some v.not := by rw [hs]; split <;> rfl
 have hunit := punit_any R A c d l v.term hd (fun h => (hv h).term)
 rw [← ht] at hunit
 have hsum := psum_any R A c d l _ hunit
 have hnot := pnot_any R A c d l _ v.not hd hsum (fun h => (hv h).not)
 rw [← hn] at hnot
 have himp := pimp_any R A c d l _ v.imp hd hnot (fun h => (hv h).imp)
 rw [← hi] at himp
 exact ⟨pterm_any R A c d l _ himp, himp, hnot⟩
theorem plevels (R : Nat) (A : Option Addr) (c : Nat) (l : List Tok) : ∀ r d, d + r = 256 → LvlC R A c d l (lvl l r)
 | 0, d, h => by
  rw [lvl]
  exact plvl_step R A c d l none (lvl l 0) (by omega) (by rw [if_pos (by omega)]) (fun h => by omega)
 | r + 1, d, h => by
  rw [lvl]
  exact plvl_step R A c d l (some (lvl l r)) (lvl l r) (by omega) (by rw [if_neg (by omega)]) (fun _ => plevels R A c l r (d + 1) (by omega))
end Go.Proofs.YtnbphgeepnknlaaGreatDoor
