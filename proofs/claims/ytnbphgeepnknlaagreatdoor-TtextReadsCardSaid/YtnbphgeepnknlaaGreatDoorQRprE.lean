/- Walk: the reference's unit, all paths. -/
import Derived.Test.YtnbphgeepnknlaaGreatDoorQRprD
import Derived.Test.YtnbphgeepnknlaaGreatDoorQPrsO
namespace Go.Proofs.YtnbphgeepnknlaaGreatDoor
open Go.RowKit
set_option linter.unusedVariables false

theorem isTk_kind {l : List Tok} {i : Nat} {t : Tok} {k : Int} {s : Bs} (h : l[i]? = some t) (hk : t.kind ≠ k) : isTk l i k s = false := by
 unfold isTk
 rw [h]
 simp [hk]
theorem isTk_out {l : List Tok} {i : Nat} {k : Int} {s : Bs} (h : l.length ≤ i) : isTk l i k s = false := by
 unfold isTk
 rw [List.getElem?_eq_none h]
theorem isKd_kind {l : List Tok} {i : Nat} {t : Tok} {k : Int} (h : l[i]? = some t) (hk : t.kind ≠ k) : isKd l i k = false := by
 unfold isKd
 rw [h]
 simp [hk]
theorem isKd_out {l : List Tok} {i : Nat} {k : Int} (h : l.length ≤ i) : isKd l i k = false := by
 unfold isKd
 rw [List.getElem?_eq_none h]
theorem isKd_is {l : List Tok} {i : Nat} {t : Tok} {k : Int} (h : l[i]? = some t) (hk : t.kind = k) : isKd l i k = true := by
 unfold isKd
 rw [h]
 simp [hk]
theorem rpunit_any (l : List Tok) (d : Nat) (T : Par) (hd : d ≤ 256) (hT : d < 256 → FnR l (d + 1) 69 T) (hG : GdP l T) (hZ : NzP T) : FnR l d 229 (unitF l (if d = 256 then none else some T)) := by
 intro A c i w hi hP
 have nf : ∀ {b : Bool}, ¬ b = true → b = false := fun h => by simpa using h
 rcases Nat.lt_or_ge i l.length with hlt | hge
 · obtain ⟨t, ht⟩ : ∃ t, l[i]? = some t := ⟨_, List.getElem?_eq_getElem hlt⟩
   by_cases k1 : t.kind = 1
   · have e : unitF l (if d = 256 then none else some T) i = .ok (tmNum t.n) (i + 1) := by
      unfold unitF
      rw [if_neg (by rw [isTk_kind ht (by omega)]; simp), if_neg (by rw [isTk_kind ht (by omega)]; simp), if_neg (by rw [isTk_kind ht (by omega)]; simp), if_neg (by rw [isTk_kind ht (by omega)]; simp), if_neg (by rw [isTk_kind ht (by omega)]; simp), if_neg (by rw [isTk_kind ht (by omega)]; simp), if_neg (by rw [isKd_kind ht (by omega)]; simp), if_pos (isKd_is ht k1), numAt_of ht]
     rw [e]
     exact rpunit_num A c d l i w t ht k1 hi hP
   by_cases k2 : t.kind = 2
   · have e : unitF l (if d = 256 then none else some T) i = .ok (tmName 3 t.text) (i + 1) := by
      unfold unitF
      rw [if_neg (by rw [isTk_kind ht (by omega)]; simp), if_neg (by rw [isTk_kind ht (by omega)]; simp), if_neg (by rw [isTk_kind ht (by omega)]; simp), if_neg (by rw [isTk_kind ht (by omega)]; simp), if_neg (by rw [isTk_kind ht (by omega)]; simp), if_neg (by rw [isTk_kind ht (by omega)]; simp), if_pos (isKd_is ht k2), textAt_of ht]
     rw [e]
     exact rpunit_name A c d l i w t ht k2 hi hP
   by_cases h1 : isTk l i 4 [45] = true
   · rcases Nat.lt_or_ge (i + 1) l.length with hl2 | hg2
     · obtain ⟨t2, ht2⟩ : ∃ t, l[i + 1]? = some t := ⟨_, List.getElem?_eq_getElem hl2⟩
       by_cases hk : t2.kind = 1
       · have e : unitF l (if d = 256 then none else some T) i = .ok (tmNum (-t2.n)) (i + 2) := by unfold unitF; rw [if_pos h1, if_pos (isKd_is ht2 hk), numAt_of ht2]
         rw [e]
         exact rpunit_minus_yes A c d l i w h1 t2 ht2 hk hi hP
       · have e : unitF l (if d = 256 then none else some T) i = .bad (i + 1) 16 := by unfold unitF; rw [if_pos h1, if_neg (by rw [isKd_kind ht2 hk]; simp)]
         rw [e]
         exact rpunit_minus_no2 A c d l i w h1 t2 ht2 hk hi hP
     · have e : unitF l (if d = 256 then none else some T) i = .bad (i + 1) 16 := by unfold unitF; rw [if_pos h1, if_neg (by rw [isKd_out hg2]; simp)]
       rw [e]
       exact rpunit_minus_no1 A c d l i w h1 hg2 hi hP
   have g1 := nf h1
   by_cases h2 : isTk l i 3 wTrue = true
   · have e : unitF l (if d = 256 then none else some T) i = .ok (tmBool 1) (i + 1) := by unfold unitF; rw [if_neg h1, if_pos h2]
     rw [e]
     exact rpunit_true A c d l i w g1 h2 hi hP
   have g2 := nf h2
   by_cases h3 : isTk l i 3 wFalse = true
   · have e : unitF l (if d = 256 then none else some T) i = .ok (tmBool 0) (i + 1) := by unfold unitF; rw [if_neg h1, if_neg h2, if_pos h3]
     rw [e]
     exact rpunit_false A c d l i w g1 g2 h3 hi hP
   have g3 := nf h3
   by_cases h4 : isTk l i 3 wNext = true
   · by_cases ho : isTk l (i + 1) 4 [40] = true
     · rcases Nat.lt_or_ge (i + 2) l.length with hl2 | hg2
       · obtain ⟨t3, ht3⟩ : ∃ t, l[i + 2]? = some t := ⟨_, List.getElem?_eq_getElem hl2⟩
         by_cases hk : t3.kind = 2
         · by_cases hc : isTk l (i + 3) 4 [41] = true
           · have e : unitF l (if d = 256 then none else some T) i = .ok (tmName 4 t3.text) (i + 4) := by unfold unitF; rw [if_neg h1, if_neg h2, if_neg h3, if_pos h4, if_pos ho, if_pos (isKd_is ht3 hk), if_pos hc, textAt_of ht3]
             rw [e]
             exact rpunit_next_yes A c d l i w g1 g2 g3 h4 ho t3 ht3 hk hc hi hP
           · have e : unitF l (if d = 256 then none else some T) i = .bad (i + 3) 16 := by unfold unitF; rw [if_neg h1, if_neg h2, if_neg h3, if_pos h4, if_pos ho, if_pos (isKd_is ht3 hk), if_neg hc]
             rw [e]
             exact rpunit_next_no3 A c d l i w g1 g2 g3 h4 ho t3 ht3 hk (nf hc) hi hP
         · have e : unitF l (if d = 256 then none else some T) i = .bad (i + 2) 16 := by unfold unitF; rw [if_neg h1, if_neg h2, if_neg h3, if_pos h4, if_pos ho, if_neg (by rw [isKd_kind ht3 hk]; simp)]
           rw [e]
           exact rpunit_next_no2b A c d l i w g1 g2 g3 h4 ho t3 ht3 hk hi hP
       · have e : unitF l (if d = 256 then none else some T) i = .bad (i + 2) 16 := by unfold unitF; rw [if_neg h1, if_neg h2, if_neg h3, if_pos h4, if_pos ho, if_neg (by rw [isKd_out hg2]; simp)]
         rw [e]
         exact rpunit_next_no2a A c d l i w g1 g2 g3 h4 ho hg2 hi hP
     · have e : unitF l (if d = 256 then none else some T) i = .bad (i + 1) 16 := by unfold unitF; rw [if_neg h1, if_neg h2, if_neg h3, if_pos h4, if_neg ho]
       rw [e]
       exact rpunit_next_no1 A c d l i w g1 g2 g3 h4 (nf ho) hi hP
   have g4 := nf h4
   by_cases h5 : isTk l i 4 [40] = true
   · by_cases h256 : d = 256
     · have e : unitF l (if d = 256 then none else some T) i = .bad i 17 := by unfold unitF; rw [if_neg h1, if_neg h2, if_neg h3, if_neg h4, if_pos h5, if_pos h256]; rfl
       rw [e]
       exact rpunit_open256 A c d l i w g1 g2 g3 g4 h5 h256 hi hP
     · have e : unitF l (if d = 256 then none else some T) i = ((T (i + 1)).then fun t j => if isTk l j 4 [41] then .ok t (j + 1) else .bad j 16) := by unfold unitF; rw [if_neg h1, if_neg h2, if_neg h3, if_neg h4, if_pos h5, if_neg h256]; rfl
       rw [e]
       exact rpunit_open A c d l i w g1 g2 g3 g4 h5 T (by omega) (hT (by omega)) hG hZ hi hP
   have g5 := nf h5
   by_cases h6 : isTk l i 3 wIf = true
   · by_cases h256 : d = 256
     · have e : unitF l (if d = 256 then none else some T) i = .bad i 17 := by unfold unitF; rw [if_neg h1, if_neg h2, if_neg h3, if_neg h4, if_neg h5, if_pos h6, if_pos h256]; rfl
       rw [e]
       exact rpunit_if A c d l i w g1 g2 g3 g4 g5 h6 _ (fun A c w hP => rpchoice256 A c d l i w h256 hi hP) hi hP
     · have e : unitF l (if d = 256 then none else some T) i = ch1 l T (i + 1) := by unfold unitF; rw [if_neg h1, if_neg h2, if_neg h3, if_neg h4, if_neg h5, if_pos h6, if_neg h256]; rfl
       rw [e]
       exact rpunit_if A c d l i w g1 g2 g3 g4 g5 h6 _ (fun A c w hP => rpchoice_any A c d l i w T (by omega) (hT (by omega)) hG hZ hlt hP) hi hP
   have g6 := nf h6
   have e : unitF l (if d = 256 then none else some T) i = .bad i 16 := by unfold unitF; rw [if_neg h1, if_neg h2, if_neg h3, if_neg h4, if_neg h5, if_neg h6, if_neg (by rw [isKd_kind ht k2]; simp), if_neg (by rw [isKd_kind ht k1]; simp)]
   rw [e]
   exact rpunit_other A c d l i w t ht k1 k2 g1 g2 g3 g4 g5 g6 hi hP
 · have e : unitF l (if d = 256 then none else some T) i = .bad i 16 := by
    unfold unitF
    rw [if_neg (by rw [isTk_out hge]; simp), if_neg (by rw [isTk_out hge]; simp), if_neg (by rw [isTk_out hge]; simp), if_neg (by rw [isTk_out hge]; simp), if_neg (by rw [isTk_out hge]; simp), if_neg (by rw [isTk_out hge]; simp), if_neg (by rw [isKd_out hge]; simp), if_neg (by rw [isKd_out hge]; simp)]
   rw [e]
   exact rpunit_end A c d l i w hge (isTk_out hge) (isTk_out hge) (isTk_out hge) (isTk_out hge) (isTk_out hge) (isTk_out hge) hi hP
end Go.Proofs.YtnbphgeepnknlaaGreatDoor
