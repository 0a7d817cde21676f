/- Plain words for the reference of term texts. -/
import Derived.Test.YtnbphgeepnknlaaDoorQRefC
import Derived.Test.YtnbphgeepnknlaaDoorQTrmH
namespace Go.Proofs.YtnbphgeepnknlaaDoor
set_option linter.unusedVariables false

theorem asks_first {op : Int} {i : Nat} (h : op = 6 ∨ op = 7 ∨ i ≤ 1) : asksN op i = asksN op (if decide (i = 0) then 0 else 1) := by
  by_cases h0 : i = 0
  · subst h0; rfl
  · have hd : decide (i = 0) = false := decide_eq_false h0
    rw [hd]
    simp only [Bool.false_eq_true, if_false]
    rcases h with rfl | rfl | h
    · rfl
    · rfl
    · rw [show i = 1 by omega]
theorem asks_le (op : Int) (i : Nat) (h : i ≤ 1) : asksN op i ≤ 8 := by
  unfold asksN
  repeat' split
  all_goals omega
/-- The text of an open node: what stands within its brackets. -/
def bodyR (t : Tm) (ends : Bool) : Bs := bodyE numS t.op t.num t.name.data.toList (shwNot numS t.kids ends) (shwIf numS t.kids 0) (shwJoin numS t.op t.kids 0 ends)
theorem shw_body (t : Tm) (rule : Nat) (ends : Bool) : shw numS t rule ends = if pB t rule ends = true then [40] ++ bodyR t true ++ [41] else bodyR t ends := by
  rw [shw_eq]
  unfold wrapP bodyR
  cases h : pB t rule ends
  · simp
  · simp
theorem pB_zero (t : Tm) : pB t 0 true = false := by unfold pB; simp
theorem join_drop {op : Int} {l : List Tm} {k : Nat} {t : Tm} {ends : Bool} (h : l[k]? = some t) : shwJoin numS op (l.drop k) k ends = (if k = 0 then [] else betw op) ++ shw numS t (asksN op k) (ends && decide (k + 1 = l.length)) ++ shwJoin numS op (l.drop (k + 1)) (k + 1) ends := by
  obtain ⟨hj, hj2⟩ := List.getElem?_eq_some_iff.1 h
  rw [List.drop_eq_getElem_cons hj, hj2, shwJoin]
  have he : (l.drop (k + 1)).isEmpty = decide (k + 1 = l.length) := by
    by_cases h2 : k + 1 = l.length
    · rw [decide_eq_true h2, List.drop_eq_nil_of_le (by omega)]; rfl
    · rw [decide_eq_false h2, List.drop_eq_getElem_cons (by omega)]; rfl
  rw [he]
theorem rbody_kinds {t : Tm} {d : Nat} (h : t.okT d) : (1 ≤ t.op ∧ t.op ≤ 4 ∧ t.kids = []) ∨ (t.op = 5 ∧ ∃ a, t.kids = [a]) ∨ (t.op = 18 ∧ ∃ a b c, t.kids = [a, b, c]) ∨ (6 ≤ t.op ∧ t.op ≤ 17 ∧ 0 < t.kids.length ∧ (t.op = 6 ∨ t.op = 7 ∨ t.kids.length = 2)) := by
  obtain ⟨-, hw, -⟩ := okT_open h
  obtain ⟨h1, -, -, h2, h3, -⟩ := wrong_ok hw
  generalize t.kids = l at *
  generalize t.op = op at *
  by_cases c1 : op = 1 ∨ op = 2 ∨ op = 3 ∨ op = 4
  · have hk : kidsOf op = (0, 0) := by unfold kidsOf; rw [if_pos c1]
    rw [hk] at h3
    exact .inl ⟨by omega, by omega, List.eq_nil_of_length_eq_zero (by simp only at h3; omega)⟩
  by_cases c2 : op = 5
  · have hk : kidsOf op = (1, 1) := by unfold kidsOf; rw [if_neg c1, if_pos c2]
    rw [hk] at h2 h3
    simp only at h2 h3
    match l, show l.length = 1 by omega with
    | [a], _ => exact .inr (.inl ⟨c2, a, rfl⟩)
  by_cases c3 : op = 6 ∨ op = 7
  · have hk : kidsOf op = (1, 64) := by unfold kidsOf; rw [if_neg c1, if_neg c2, if_pos c3]
    rw [hk] at h2
    simp only at h2
    exact .inr (.inr (.inr ⟨by omega, by omega, by omega, by omega⟩))
  by_cases c4 : op = 8 ∨ op = 9 ∨ op = 10 ∨ op = 11 ∨ op = 12 ∨ op = 13 ∨ op = 14 ∨ op = 15 ∨ op = 16 ∨ op = 17
  · have hk : kidsOf op = (2, 2) := by unfold kidsOf; rw [if_neg c1, if_neg c2, if_neg c3, if_pos c4]
    rw [hk] at h2 h3
    simp only at h2 h3
    exact .inr (.inr (.inr ⟨by omega, by omega, by omega, .inr (.inr (by omega))⟩))
  by_cases c5 : op = 18
  · have hk : kidsOf op = (3, 3) := by unfold kidsOf; rw [if_neg c1, if_neg c2, if_neg c3, if_neg c4, if_pos c5]
    rw [hk] at h2 h3
    simp only at h2 h3
    match l, show l.length = 3 by omega with
    | [a, b, c], _ => exact .inr (.inr (.inl ⟨c5, a, b, c, rfl⟩))
  exfalso
  have hk : kidsOf op = (-1, -1) := by unfold kidsOf; rw [if_neg c1, if_neg c2, if_neg c3, if_neg c4, if_neg c5]
  rw [hk] at h1
  simp at h1
theorem rbody_lone {t : Tm} {ends : Bool} (h1 : 1 ≤ t.op) (h4 : t.op ≤ 4) : bodyR t ends = loneT numS t.op t.num t.name.data.toList := by
  unfold bodyR bodyE; rw [if_pos (by omega)]
theorem rbody_not {t a : Tm} {ends : Bool} (h : t.op = 5) (hk : t.kids = [a]) : bodyR t ends = [33] ++ shw numS a 4 ends := by
  unfold bodyR bodyE; rw [if_neg (by omega), if_pos h, hk]; rfl
theorem rbody_if {t a b c : Tm} {ends : Bool} (h : t.op = 18) (hk : t.kids = [a, b, c]) : bodyR t ends = ifW 0 ++ shw numS a 0 true ++ ifW 1 ++ shw numS b 0 true ++ ifW 2 ++ shw numS c 0 true := by
  unfold bodyR bodyE; rw [if_neg (by omega), if_neg (by omega), if_pos h, hk]
  simp [shwIf]
theorem rbody_join {t : Tm} {ends : Bool} (h6 : 6 ≤ t.op) (h17 : t.op ≤ 17) : bodyR t ends = shwJoin numS t.op t.kids 0 ends := by
  unfold bodyR bodyE; rw [if_neg (by omega), if_neg (by omega), if_neg (by omega)]
theorem rbody_len {t : Tm} {ends : Bool} {d : Nat} (h : t.okT d) : (bodyR t ends).length ≤ 80 * t.size := by
  unfold bodyR
  have hok := h
  cases t with
  | mk op n s l =>
    rw [Tm.okT] at h
    have hs := (wrong_ok h.2.1).2.2.1
    have hsl : s.data.toList.length = s.size := by simp
    have hb := bodyE_len numS_short op n s.data.toList (shwNot numS l ends) (shwIf numS l 0) (shwJoin numS op l 0 ends) (80 * Tm.sizeL l) (wrong_ok h.2.1).2.1 (shwNot_len numS_short l _ _ h.2.2) (shwIf_len numS_short l _ _ h.2.2) (shwJoin_len numS_short op l _ _ _ h.2.2)
    rw [Tm.size]
    show (bodyE numS op n s.data.toList _ _ _).length ≤ _
    simp only [Tm.kids, Tm.op]
    omega
end Go.Proofs.YtnbphgeepnknlaaDoor
