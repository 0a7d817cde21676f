/- Plain words: the text of a term is no longer than reckoned; a parsed term has a text. -/
import Derived.Test.YtnbphgeepnknlaaGreatDoorQParQ
import Derived.Test.YtnbphgeepnknlaaGreatDoorQTrmH
import Derived.Test.YtnbphgeepnknlaaGreatDoorQAllP
namespace Go.Proofs.YtnbphgeepnknlaaGreatDoor
set_option linter.unusedVariables false

theorem decB_len3 : ∀ n, n < 256 → (decB n).length ≤ 3 := by decide +kernel
theorem numS_len4 (n : Int) (h1 : -255 ≤ n) (h2 : n ≤ 255) : (numS n).length ≤ 4 := by
 have h := decB_len3 n.natAbs (by omega)
 unfold numS
 split
 · simp; omega
 · omega
theorem asks_le (op : Int) {k j : Nat} (hk : (k : Int) ≤ (kidsOf op).2) (hj : j < k) : asksN op j ≤ 8 := by
 unfold asksN
 by_cases h9 : op = 9
 · rw [if_pos h9]; omega
 rw [if_neg h9]
 by_cases h8 : op = 8
 · rw [if_pos h8]; omega
 rw [if_neg h8]
 by_cases h7 : op = 7
 · rw [if_pos h7]; omega
 rw [if_neg h7]
 by_cases h6 : op = 6 ∨ op = 5
 · rw [if_pos h6]; omega
 rw [if_neg h6]
 by_cases h10 : op = 10 ∨ op = 11 ∨ op = 12 ∨ op = 13
 · rw [if_pos h10]; omega
 rw [if_neg h10]
 by_cases h14 : op = 14 ∨ op = 15
 · have h2 : (kidsOf op).2 = 2 := by rcases h14 with rfl | rfl <;> rfl
   rw [if_pos h14]; omega
 rw [if_neg h14]
 by_cases h16 : op = 16 ∨ op = 17
 · have h2 : (kidsOf op).2 = 2 := by rcases h16 with rfl | rfl <;> rfl
   rw [if_pos h16]; omega
 rw [if_neg h16]
 omega
theorem ruleOf_lone {op : Int} (h : op = 1 ∨ op = 2 ∨ op = 3 ∨ op = 4) : ruleOf op = 8 := by rcases h with rfl | rfl | rfl | rfl <;> rfl
mutual
theorem shw_lenB : ∀ (t : Tm) (rule : Nat) (ends : Bool) (d : Nat), t.okT d → rule ≤ 8 → (shw numS t rule ends).length ≤ lenB t
 | .mk op n s l, rule, ends, d, h, hr => by
  rw [Tm.okT] at h
  obtain ⟨w0, w1, -, w3, w4, -⟩ := wrong_ok h.2.1
  have hsl : s.data.toList.length = s.size := by simp
  have hw := wrapP_len (decide (ruleOf op < rule) || (decide (op = 18) && !ends)) (bodyE numS op n s.data.toList (shwNot numS l (decide (ruleOf op < rule) || (decide (op = 18) && !ends) || ends)) (shwIf numS l 0) (shwJoin numS op l 0 (decide (ruleOf op < rule) || (decide (op = 18) && !ends) || ends)))
  have h5 := shwNot_lenB l (decide (ruleOf op < rule) || (decide (op = 18) && !ends) || ends) _ h.2.2
  have h18 := shwIf_lenB l 0 _ h.2.2
  have hj := shwJoin_lenB op l 0 (decide (ruleOf op < rule) || (decide (op = 18) && !ends) || ends) _ h.2.2 (fun j hj => asks_le op w4 (by omega))
  rw [shw]
  show (wrapP _ _).length ≤ _
  by_cases c : op = 1 ∨ op = 2 ∨ op = 3 ∨ op = 4
  · have hp : (decide (ruleOf op < rule) || (decide (op = 18) && !ends)) = false := by
     rw [ruleOf_lone c]
     have a : ¬ 8 < rule := by omega
     have b : op ≠ 18 := by omega
     simp [a, b]
    rw [hp]
    show (bodyE _ _ _ _ _ _ _).length ≤ _
    unfold bodyE
    rw [if_pos c, lenB]
    unfold loneT
    by_cases c1 : op = 1
    · rw [if_pos c1, if_pos c1]; exact numS_len4 n (w1 c1).1 (w1 c1).2
    rw [if_neg c1, if_neg c1]
    by_cases c2 : op = 2
    · rw [if_pos c2, if_pos c2]; split <;> simp
    rw [if_neg c2, if_neg c2]
    by_cases c3 : op = 3
    · rw [if_pos c3, if_pos c3]; omega
    rw [if_neg c3, if_neg c3, if_pos (by omega)]
    simp
  · have e : lenB (.mk op n s l) = if op = 5 then 3 + lenBL l else if op = 18 then 20 + lenBL l else 2 + lenBL l + (l.length - 1) * ((signB op).length + 2) := by
     rw [lenB, if_neg (by omega), if_neg (by omega), if_neg (by omega), if_neg (by omega)]
    rw [e]
    refine Nat.le_trans hw ?_
    unfold bodyE
    rw [if_neg c]
    by_cases c5 : op = 5
    · rw [if_pos c5, if_pos c5]; simp; omega
    rw [if_neg c5, if_neg c5]
    by_cases c18 : op = 18
    · rw [if_pos c18, if_pos c18]
      have hl : l.length ≤ 3 := by subst c18; have : (kidsOf 18).2 = 3 := rfl; omega
      omega
    rw [if_neg c18, if_neg c18]
    rw [if_pos rfl] at hj
    omega
theorem shwNot_lenB : ∀ (l : List Tm) (ends : Bool) (d : Nat), Tm.okL l d → (shwNot numS l ends).length ≤ lenBL l
 | [], _, _, _ => by simp [shwNot]
 | k :: r, ends, d, h => by
  rw [Tm.okL] at h
  have := shw_lenB k 4 ends d h.1 (by omega)
  rw [shwNot, lenBL]
  omega
theorem shwIf_lenB : ∀ (l : List Tm) (i d : Nat), Tm.okL l d → (shwIf numS l i).length ≤ lenBL l + 6 * l.length
 | [], _, _, _ => by simp [shwIf]
 | k :: r, i, d, h => by
  rw [Tm.okL] at h
  have h1 := shw_lenB k 0 true d h.1 (by omega)
  have h2 := shwIf_lenB r (i + 1) d h.2
  have h3 := ifW_len i
  rw [shwIf, lenBL, List.length_append, List.length_append, List.length_cons]
  omega
theorem shwJoin_lenB (op : Int) : ∀ (l : List Tm) (i : Nat) (ends : Bool) (d : Nat), Tm.okL l d → (∀ j, j < i + l.length → asksN op j ≤ 8) → (shwJoin numS op l i ends).length ≤ lenBL l + (if i = 0 then l.length - 1 else l.length) * ((signB op).length + 2)
 | [], i, _, _, _, _ => by simp [shwJoin]
 | k :: r, i, ends, d, h, ha => by
  rw [Tm.okL] at h
  have h1 := shw_lenB k (asksN op i) (ends && r.isEmpty) d h.1 (ha i (by simp))
  have h2 := shwJoin_lenB op r (i + 1) ends d h.2 (fun j hj => ha j (by simp; omega))
  rw [if_neg (by omega)] at h2
  rw [shwJoin, lenBL, List.length_append, List.length_append, List.length_cons]
  by_cases hi : i = 0
  · rw [if_pos hi, if_pos hi]
    simp
    omega
  · rw [if_neg hi, if_neg hi]
    have h4 : (betw op).length = (signB op).length + 2 := by simp [betw]
    rw [h4, Nat.add_mul, Nat.one_mul]
    omega
end
theorem wgt_le : ∀ (l : List Tok) (k : Nat), wgt l k ≤ txts l + l.length
 | [], k => by unfold wgt; simp
 | t :: r, 0 => by unfold wgt; simp
 | t :: r, k + 1 => by
  have := wgt_le r k
  unfold wgt txts at this ⊢
  rw [List.take_succ_cons, List.map_cons, List.sum_cons, List.map_cons, List.sum_cons, List.length_cons]
  omega
/-- An error is none that is nought. -/
def NzP (P : Par) : Prop := ∀ i j e, P i = .bad j e → e ≠ 0
theorem then_bad2 {α β : Type} {r : Rs α} {f : α → Nat → Rs β} {j : Nat} {e : Int} (h : r.then f = .bad j e) : r = .bad j e ∨ ∃ x k, r = .ok x k ∧ f x k = .bad j e := by
 cases r with
 | bad a b => exact .inl (by simpa using h)
 | ok x k => exact .inr ⟨x, k, rfl, h⟩
theorem bad_inj {α : Type} {i j : Nat} {e f : Int} (h : (Rs.bad i e : Rs α) = .bad j f) : e = f := by cases h; rfl
def NzS (s : Option Par) : Prop := ∀ p, s = some p → NzP p
theorem inner_nz {s : Option Par} (h : NzS s) : NzP (inner s) := by
 intro i j e he
 unfold inner at he
 cases s with
 | none => have := bad_inj he; omega
 | some p => exact h p rfl _ _ _ he
theorem left_nz {l : List Tok} {one : Par} {ops : List Int} (h : NzP one) : NzP (left l one ops) := by
 have key : ∀ fuel t i j e, leftL l one ops fuel t i = .bad j e → e ≠ 0 := by
  intro fuel
  induction fuel with
  | zero => intro t i j e he; rw [leftL] at he; cases he
  | succ n ih =>
   intro t i j e he
   rw [leftL] at he
   by_cases hz : whichOp l i ops = 0
   · rw [if_pos hz] at he; cases he
   · rw [if_neg hz] at he
     rcases then_bad2 he with h1 | ⟨x, k, -, h1⟩
     · exact h _ _ _ h1
     · exact ih _ _ _ _ h1
 intro i j e he
 rcases then_bad2 he with h1 | ⟨x, k, -, h1⟩
 · exact h _ _ _ h1
 · exact key _ _ _ _ _ h1
theorem many_nz {l : List Tok} {one : Par} {op : Int} (h : NzP one) : NzP (many l op one) := by
 have key : ∀ fuel acc i j e, manyF l op one fuel acc i = .bad j e → e ≠ 0 := by
  intro fuel
  induction fuel with
  | zero => intro acc i j e he; rw [manyF] at he; cases he
  | succ n ih =>
   intro acc i j e he
   rw [manyF] at he
   by_cases hz : whichOp l i [op] = 0
   · rw [if_pos hz] at he; cases he
   · rw [if_neg hz] at he
     rcases then_bad2 he with h1 | ⟨x, k, -, h1⟩
     · exact h _ _ _ h1
     · exact ih _ _ _ _ h1
 intro i j e he
 rcases then_bad2 he with h1 | ⟨x, k, -, h1⟩
 · exact h _ _ _ h1
 · exact key _ _ _ _ _ h1
theorem unit_nz {l : List Tok} {s : Option Par} (h : NzS s) : NzP (unitF l s) := by
 have hi := inner_nz h
 intro i j e he
 unfold unitF at he
 by_cases h1 : isTk l i 4 [45] = true
 · rw [if_pos h1] at he
   split at he
   · cases he
   · have := bad_inj he; omega
 rw [if_neg h1] at he
 by_cases h2 : isTk l i 3 wTrue = true
 · rw [if_pos h2] at he; cases he
 rw [if_neg h2] at he
 by_cases h3 : isTk l i 3 wFalse = true
 · rw [if_pos h3] at he; cases he
 rw [if_neg h3] at he
 by_cases h4 : isTk l i 3 wNext = true
 · rw [if_pos h4] at he
   split at he
   · split at he
     · split at he
       · cases he
       · have := bad_inj he; omega
     · have := bad_inj he; omega
   · have := bad_inj he; omega
 rw [if_neg h4] at he
 by_cases h5 : isTk l i 4 [40] = true
 · rw [if_pos h5] at he
   rcases then_bad2 he with h1 | ⟨x, k, -, h1⟩
   · exact hi _ _ _ h1
   · split at h1
     · cases h1
     · have := bad_inj h1; omega
 rw [if_neg h5] at he
 by_cases h6 : isTk l i 3 wIf = true
 · rw [if_pos h6] at he
   unfold choiceB at he
   rcases then_bad2 he with h1 | ⟨x, k, -, h1⟩
   · exact hi _ _ _ h1
   · split at h1
     · rcases then_bad2 h1 with h1 | ⟨x, k, -, h1⟩
       · exact hi _ _ _ h1
       · split at h1
         · rcases then_bad2 h1 with h1 | ⟨x, k, -, h1⟩
           · exact hi _ _ _ h1
           · cases h1
         · have := bad_inj h1; omega
     · have := bad_inj h1; omega
 rw [if_neg h6] at he
 by_cases h7 : isKd l i 2 = true
 · rw [if_pos h7] at he; cases he
 rw [if_neg h7] at he
 by_cases h8 : isKd l i 1 = true
 · rw [if_pos h8] at he; cases he
 rw [if_neg h8] at he
 have := bad_inj he
 omega
theorem lvlB_nz {l : List Tok} {s : Option Lvl} (h : ∀ v, s = some v → NzP v.term ∧ NzP v.imp ∧ NzP v.not) : NzP (lvlB l s).term ∧ NzP (lvlB l s).imp ∧ NzP (lvlB l s).not := by
 have ht : NzS (s.map Lvl.term) := fun p hp => by
  cases s with
  | none => cases hp
  | some v => simp at hp; subst hp; exact (h v rfl).1
 have hi : NzS (s.map Lvl.imp) := fun p hp => by
  cases s with
  | none => cases hp
  | some v => simp at hp; subst hp; exact (h v rfl).2.1
 have hn : NzS (s.map Lvl.not) := fun p hp => by
  cases s with
  | none => cases hp
  | some v => simp at hp; subst hp; exact (h v rfl).2.2
 have hsum : NzP (sumB l (s.map Lvl.term)) := left_nz (left_nz (unit_nz ht))
 have hnot : NzP (notOf l s) := by
  intro i j e he
  unfold notOf notB at he
  split at he
  · rcases then_bad2 he with h1 | ⟨x, k, -, h1⟩
    · exact inner_nz hn _ _ _ h1
    · cases h1
  · rcases then_bad2 he with h1 | ⟨x, k, -, h1⟩
    · exact hsum _ _ _ h1
    · split at h1
      · cases h1
      · rcases then_bad2 h1 with h1 | ⟨x, k, -, h1⟩
        · exact hsum _ _ _ h1
        · cases h1
 have himp : NzP (impOf l s) := by
  intro i j e he
  unfold impOf impB at he
  rcases then_bad2 he with h1 | ⟨x, k, -, h1⟩
  · exact many_nz (many_nz hnot) _ _ _ h1
  · split at h1
    · cases h1
    · rcases then_bad2 h1 with h1 | ⟨x, k, -, h1⟩
      · exact inner_nz hi _ _ _ h1
      · cases h1
 refine ⟨?_, himp, hnot⟩
 intro i j e he
 have he' : termB l (impOf l s) i = .bad j e := he
 unfold termB at he'
 rcases then_bad2 he' with h1 | ⟨x, k, -, h1⟩
 · exact himp _ _ _ h1
 · split at h1
   · cases h1
   · rcases then_bad2 h1 with h1 | ⟨x, k, -, h1⟩
     · exact himp _ _ _ h1
     · cases h1
theorem lvl_nz (l : List Tok) : ∀ r, NzP (lvl l r).term ∧ NzP (lvl l r).imp ∧ NzP (lvl l r).not
 | 0 => by rw [lvl]; exact lvlB_nz (fun v h => by cases h)
 | r + 1 => by rw [lvl]; exact lvlB_nz (fun v h => by cases h; exact lvl_nz l r)
theorem lvl_bad (l : List Tok) {i j : Nat} {e : Int} (h : (lvl l 256).term i = .bad j e) : e ≠ 0 := (lvl_nz l 256).1 i j e h
/-- A parsed term has a text. -/
theorem parsed_show {s : Bs} {t : Tm} {a : Int} (hs : s.length ≤ 4000) (h : parseT s = (t, a, 0)) : (showTm t).2 = 0 := by
 unfold parseT at h
 by_cases h1 : (all s).2.2 ≠ 0
 · rw [if_pos h1] at h
   simp only [Prod.mk.injEq] at h
   exact absurd h.2.2 h1
 rw [if_neg h1] at h
 simp only at h
 have hok := all_ok s
 obtain ⟨l, hl⟩ : ∃ l, l = (all s).1 := ⟨_, rfl⟩
 rw [← hl] at h hok
 by_cases h2 : (takeT l 0).2.2 ≠ 0
 · rw [if_pos h2] at h
   simp only [Prod.mk.injEq] at h
   exact absurd h.2.2 h2
 rw [if_neg h2] at h
 by_cases h3 : (takeT l 0).2.1 < l.length
 · rw [if_pos h3] at h
   simp at h
 rw [if_neg h3] at h
 simp only [Prod.mk.injEq] at h
 obtain ⟨ht, -, -⟩ := h
 have hg := (lvl_gd l 256).term 0
 unfold takeT at h2 ht
 cases hr : (lvl l 256).term 0 with
 | bad j e =>
  rw [hr] at h2 ht
  simp at h2
  rw [← ht]
  exfalso
  have hp := lvl_bad l hr
  exact hp h2
 | ok x j =>
  rw [hr] at h2 ht
  have hx := hg x j hr
  by_cases hc : x.check = 0
  · simp only [hc, if_true] at h2 ht
    subst ht
    have ho := check_ok hc
    have hn : NamesOk l := fun t ht => (hok.1 t ht).name
    have htl := hx.told hn
    have hlen := shw_lenB x 0 true 1 ho.1 (by omega)
    have hw := hx.len
    have hw2 := wgt_le l j
    have hl2 := txts_len hok.1
    unfold showTm
    rw [if_neg (by simpa using hc), if_neg (by rw [htl]; simp), if_neg (by omega)]
  · exfalso
    simp [hc] at h2
end Go.Proofs.YtnbphgeepnknlaaGreatDoor
