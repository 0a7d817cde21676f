/- Plain words: the tokens of a term's text, and that the parser gives the term back. -/
import Derived.Test.YtnbphgeepnknlaaDoorQTrmP
import Derived.Test.YtnbphgeepnknlaaDoorQTrmE
import Derived.Test.YtnbphgeepnknlaaDoorQNumA
namespace Go.Proofs.YtnbphgeepnknlaaDoor
set_option linter.unusedVariables false
set_option linter.unusedSectionVars false

def sg (s : Bs) : Tok := ⟨4, 0, s, 0⟩
def wd (s : Bs) : Tok := ⟨3, 0, s, 0⟩
def nmTk (s : Bs) : Tok := ⟨2, 0, s, 0⟩
def nuTk (n : Int) : Tok := ⟨1, n, decB n.natAbs, 0⟩
def loneTk (op n : Int) (s : Bs) : List Tok :=
  if op = 1 then (if n < 0 then [sg [45], nuTk (-n)] else [nuTk n]) else if op = 2 then (if n = 1 then [wd wTrue] else [wd wFalse]) else if op = 3 then [nmTk s] else [wd wNext, sg [40], nmTk s, sg [41]]
def opTk (op : Int) : Tok := if op = 17 then wd [109, 111, 100] else sg (signB op)
def ifTk (i : Nat) : Tok := wd (if i = 0 then wIf else if i = 1 then wThen else wElse)
def wrapTk (p : Bool) (b : List Tok) : List Tok := if p then [sg [40]] ++ b ++ [sg [41]] else b
def bodyTk (op n : Int) (s : Bs) (b5 b18 bj : List Tok) : List Tok :=
  if op = 1 ∨ op = 2 ∨ op = 3 ∨ op = 4 then loneTk op n s else if op = 5 then [sg [33]] ++ b5 else if op = 18 then b18 else bj
mutual
def tkT : Tm → Nat → Bool → List Tok
  | .mk op n s l, rule, ends =>
    let p := decide (ruleOf op < rule) || (decide (op = 18) && !ends)
    wrapTk p (bodyTk op n s.data.toList (tkNot l (p || ends)) (tkIf l 0) (tkJoin op l 0 (p || ends)))
def tkNot : List Tm → Bool → List Tok
  | [], _ => []
  | k :: _, ends => tkT k 4 ends
def tkIf : List Tm → Nat → List Tok
  | [], _ => []
  | k :: r, i => [ifTk i] ++ tkT k 0 true ++ tkIf r (i + 1)
def tkJoin (op : Int) : List Tm → Nat → Bool → List Tok
  | [], _, _ => []
  | k :: r, i, ends => (if i = 0 then [] else [opTk op]) ++ tkT k (asksN op i) (ends && r.isEmpty) ++ tkJoin op r (i + 1) ends
end
/-- The tokens without brackets around them. -/
def bodyOf (t : Tm) (ends : Bool) : List Tok := bodyTk t.op t.num t.name.data.toList (tkNot t.kids ends) (tkIf t.kids 0) (tkJoin t.op t.kids 0 ends)
def parens (t : Tm) (rule : Nat) (ends : Bool) : Bool := decide (ruleOf t.op < rule) || (decide (t.op = 18) && !ends)
theorem tkT_eq (t : Tm) (rule : Nat) (ends : Bool) : tkT t rule ends = wrapTk (parens t rule ends) (bodyOf t (parens t rule ends || ends)) := by
  cases t; rw [tkT]; rfl

/-- The tokens ts stand in l from i on, whatever their offsets. -/
def At (l : List Tok) (i : Nat) (ts : List Tok) : Prop := ∀ j t, ts[j]? = some t → ∃ u, l[i + j]? = some u ∧ u.kind = t.kind ∧ u.n = t.n ∧ u.text = t.text
theorem At.left {l a b : List Tok} {i : Nat} (h : At l i (a ++ b)) : At l i a := fun j t hj => h j t (by rw [List.getElem?_append_left (List.getElem?_eq_some_iff.1 hj).1]; exact hj)
theorem At.right {l a b : List Tok} {i : Nat} (h : At l i (a ++ b)) : At l (i + a.length) b := fun j t hj => by
  have := h (a.length + j) t (by rw [List.getElem?_append_right (by omega), Nat.add_sub_cancel_left]; exact hj)
  rwa [← Nat.add_assoc] at this
theorem At.head {l b : List Tok} {i : Nat} {t : Tok} (h : At l i (t :: b)) : ∃ u, l[i]? = some u ∧ u.kind = t.kind ∧ u.n = t.n ∧ u.text = t.text := h 0 t rfl
theorem At.tail {l b : List Tok} {i : Nat} {t : Tok} (h : At l i (t :: b)) : At l (i + 1) b := At.right (a := [t]) h
theorem At.le {l ts : List Tok} {i : Nat} (h : At l i ts) (h0 : ts ≠ []) : i + ts.length ≤ l.length := by
  have hl : 0 < ts.length := List.length_pos_iff.2 h0
  obtain ⟨u, hu, _⟩ := h (ts.length - 1) _ (List.getElem?_eq_getElem (by omega))
  have := (List.getElem?_eq_some_iff.1 hu).1
  omega
section
variable {l : List Tok} {i : Nat} {u : Tok} (hu : l[i]? = some u)
include hu
theorem isTk_at (k : Int) (s : Bs) : isTk l i k s = (decide (u.kind = k) && decide (u.text = s)) := by unfold isTk; rw [hu]
theorem isKd_at (k : Int) : isKd l i k = decide (u.kind = k) := by unfold isKd; rw [hu]
theorem numAt_at : numAt l i = u.n := by unfold numAt; rw [hu]
theorem textAt_at : textAt l i = u.text := by unfold textAt; rw [hu]
end
/-- Token j goes on with no operator of a rule from k on. -/
def Follow (l : List Tok) (j k : Nat) : Prop := ∀ op : Int, 6 ≤ op → op ≤ 17 → k ≤ ruleOf op → whichOp l j [op] = 0
theorem Follow.mono {l : List Tok} {j k m : Nat} (h : Follow l j k) (hk : k ≤ m) : Follow l j m := fun op h1 h2 h3 => h op h1 h2 (by omega)
theorem whichOp_none {l : List Tok} {j : Nat} : ∀ {ops : List Int}, (∀ op ∈ ops, whichOp l j [op] = 0 ∧ op ≠ 0) → whichOp l j ops = 0
  | [], _ => rfl
  | op :: r, h => by
    obtain ⟨h1, h2⟩ := h op (by simp)
    rw [whichOp] at h1 ⊢
    by_cases hc : (if op = 17 then isTk l j 3 [109, 111, 100] else isTk l j 4 (signB op)) = true
    · rw [if_pos hc] at h1; exact absurd h1 h2
    · rw [if_neg hc]; exact whichOp_none fun o ho => h o (by simp [ho])
def binOps : List Int := [6, 7, 8, 9, 10, 11, 12, 13, 14, 15, 16, 17]
theorem binOps_mem {op : Int} (h1 : 6 ≤ op) (h2 : op ≤ 17) : op ∈ binOps := by
  have : op = 6 ∨ op = 7 ∨ op = 8 ∨ op = 9 ∨ op = 10 ∨ op = 11 ∨ op = 12 ∨ op = 13 ∨ op = 14 ∨ op = 15 ∨ op = 16 ∨ op = 17 := by omega
  simpa [binOps] using this
theorem opTk_inj : ∀ a ∈ binOps, ∀ b ∈ binOps, (opTk a).kind = (opTk b).kind → (opTk a).text = (opTk b).text → a = b := by decide
theorem opTk_is : ∀ op : Int, (if op = 17 then (3 : Int) else 4) = (opTk op).kind ∧ (if op = 17 then [109, 111, 100] else signB op) = (opTk op).text := fun op => by
  unfold opTk
  split <;> exact ⟨rfl, rfl⟩
theorem whichOp_one {l : List Tok} {j : Nat} {u : Tok} (hu : l[j]? = some u) (op : Int) : whichOp l j [op] = if u.kind = (opTk op).kind ∧ u.text = (opTk op).text then op else 0 := by
  have h := opTk_is op
  rw [whichOp, isTk_at hu, isTk_at hu, ← h.1, ← h.2, whichOp]
  by_cases h17 : op = 17
  · rw [if_pos h17, if_pos h17, if_pos h17]; simp
  · rw [if_neg h17, if_neg h17, if_neg h17]; simp
theorem whichOp_hit {l : List Tok} {j : Nat} {op : Int} {b : List Tok} (h : At l j (opTk op :: b)) : whichOp l j [op] = op := by
  obtain ⟨u, hu, hk, -, hx⟩ := h.head
  rw [whichOp_one hu, if_pos ⟨hk, hx⟩]
theorem whichOp_miss {l : List Tok} {j : Nat} {op op' : Int} {b : List Tok} (h : At l j (opTk op :: b)) (h1 : op ∈ binOps) (h2 : op' ∈ binOps) (hne : op' ≠ op) : whichOp l j [op'] = 0 := by
  obtain ⟨u, hu, hk, -, hx⟩ := h.head
  rw [whichOp_one hu, if_neg]
  rintro ⟨h3, h4⟩
  exact hne (opTk_inj op' h2 op h1 (by rw [← h3, hk]) (by rw [← h4, hx]))
theorem whichOp_in {l : List Tok} {j : Nat} {op : Int} {b : List Tok} (h : At l j (opTk op :: b)) (h1 : op ∈ binOps) : ∀ {ops : List Int}, (∀ o ∈ ops, o ∈ binOps) → op ∈ ops → whichOp l j ops = op
  | x :: r, hs, hm => by
    by_cases hx : x = op
    · subst hx
      have h2 := whichOp_hit h
      rw [whichOp] at h2 ⊢
      by_cases hc : (if x = 17 then isTk l j 3 [109, 111, 100] else isTk l j 4 (signB x)) = true
      · rw [if_pos hc]
      · rw [if_neg hc, whichOp] at h2
        subst h2
        exact absurd h1 (by decide)
    · have h2 := whichOp_miss h h1 (hs x (by simp)) hx
      have h3 : x ≠ 0 := fun h0 => by have := hs x (by simp); rw [h0] at this; exact absurd this (by decide)
      rw [whichOp] at h2 ⊢
      by_cases hc : (if x = 17 then isTk l j 3 [109, 111, 100] else isTk l j 4 (signB x)) = true
      · rw [if_pos hc] at h2; exact absurd h2 h3
      · rw [if_neg hc]
        exact whichOp_in h h1 (fun o ho => hs o (by simp [ho])) ((List.mem_cons.1 hm).resolve_left fun e => hx e.symm)
theorem follow_op {l : List Tok} {j k : Nat} {op : Int} {b : List Tok} (h : At l j (opTk op :: b)) (h1 : 6 ≤ op) (h2 : op ≤ 17) (hr : ruleOf op < k) : Follow l j k := fun op' a1 a2 a3 =>
  whichOp_miss h (binOps_mem h1 h2) (binOps_mem a1 a2) (fun e => by subst e; omega)
theorem follow_end {l : List Tok} {j k : Nat} (h : l.length ≤ j) : Follow l j k := fun op _ _ _ => by
  rw [whichOp, whichOp]
  have hn : l[j]? = none := List.getElem?_eq_none h
  simp [isTk, hn]
/-- Tokens that end a term. -/
def closes (t : Tok) : Prop := ∀ op ∈ binOps, ¬ (t.kind = (opTk op).kind ∧ t.text = (opTk op).text)
theorem follow_close {l : List Tok} {j k : Nat} {u : Tok} (hu : l[j]? = some u) (h : closes u) : Follow l j k := fun op a1 a2 _ => by
  rw [whichOp_one hu, if_neg (h op (binOps_mem a1 a2))]
theorem follow_tk {l b : List Tok} {j k : Nat} {t : Tok} (h : At l j (t :: b)) (hc : closes t) : Follow l j k := by
  obtain ⟨u, hu, hk, -, hx⟩ := h.head
  exact follow_close hu fun op ho => by rw [hk, hx]; exact hc op ho
end Go.Proofs.YtnbphgeepnknlaaDoor
