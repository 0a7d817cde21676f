/- Plain words: what a parsed term is: its size, its names, how long its text may be. -/
import Derived.Test.YtnbphgeepnknlaaGreatDoorQTrmP
import Derived.Test.YtnbphgeepnknlaaGreatDoorQTrmE
namespace Go.Proofs.YtnbphgeepnknlaaGreatDoor
set_option linter.unusedVariables false

/-- The weight of the first k tokens. -/
def wgt (l : List Tok) (k : Nat) : Nat := ((l.take k).map fun t => t.text.length + 1).sum
theorem wgt_succ {l : List Tok} {k : Nat} {t : Tok} (h : l[k]? = some t) : wgt l (k + 1) = wgt l k + (t.text.length + 1) := by
 unfold wgt
 obtain ⟨h1, h2⟩ := List.getElem?_eq_some_iff.1 h
 rw [List.take_succ_eq_append_getElem h1, h2]
 simp
mutual
/-- How long a term's text is at most. -/
def lenB : Tm → Nat
 | .mk op n s l => if op = 1 then 4 else if op = 2 then 5 else if op = 3 then s.size else if op = 4 then s.size + 6 else if op = 5 then 3 + lenBL l else if op = 18 then 20 + lenBL l else 2 + lenBL l + (l.length - 1) * ((signB op).length + 2)
def lenBL : List Tm → Nat
 | [] => 0
 | t :: r => lenB t + lenBL r
end
theorem lenBL_app : ∀ (a b : List Tm), lenBL (a ++ b) = lenBL a + lenBL b
 | [], b => by simp [lenBL]
 | t :: r, b => by rw [List.cons_append, lenBL, lenBL, lenBL_app r b]; omega
theorem sizeL_app : ∀ (a b : List Tm), Tm.sizeL (a ++ b) = Tm.sizeL a + Tm.sizeL b
 | [], b => by simp [Tm.sizeL]
 | t :: r, b => by rw [List.cons_append, Tm.sizeL, Tm.sizeL, sizeL_app r b]; omega
theorem toldL_app : ∀ (a b : List Tm), toldL (a ++ b) = (toldL a && toldL b)
 | [], b => by simp [toldL]
 | t :: r, b => by rw [List.cons_append, toldL, toldL, toldL_app r b, Bool.and_assoc]
/-- Every name among the tokens is a name. -/
def NamesOk (l : List Tok) : Prop := ∀ t ∈ l, t.kind = 2 → isName t.text = true
/-- What is parsed from token i to token j. -/
structure Gd (l : List Tok) (i : Nat) (t : Tm) (j : Nat) : Prop where
 ij : i < j
 jl : j ≤ l.length
 sz : t.size ≤ j - i
 len : lenB t + 4 * wgt l i ≤ 4 * wgt l j
 told : NamesOk l → toldT t = true
def GdP (l : List Tok) (P : Par) : Prop := ∀ i t j, P i = .ok t j → Gd l i t j
section
variable {l : List Tok} {i j : Nat}
theorem tk_some {k : Int} {s : Bs} (h : isTk l i k s = true) : i < l.length ∧ wgt l (i + 1) = wgt l i + (s.length + 1) := by
 unfold isTk at h
 cases ht : l[i]? with
 | none => rw [ht] at h; cases h
 | some t =>
  rw [ht] at h
  simp at h
  exact ⟨(List.getElem?_eq_some_iff.1 ht).1, by rw [wgt_succ ht, h.2]⟩
theorem kd_some {k : Int} (h : isKd l i k = true) : ∃ t, l[i]? = some t ∧ t.kind = k ∧ i < l.length ∧ wgt l (i + 1) = wgt l i + (t.text.length + 1) := by
 unfold isKd at h
 cases ht : l[i]? with
 | none => rw [ht] at h; cases h
 | some t =>
  rw [ht] at h
  exact ⟨t, rfl, by simpa using h, (List.getElem?_eq_some_iff.1 ht).1, wgt_succ ht⟩
theorem which_some : ∀ {ops : List Int}, whichOp l i ops ≠ 0 → whichOp l i ops ∈ ops ∧ i < l.length ∧ wgt l (i + 1) = wgt l i + ((signB (whichOp l i ops)).length + 1)
 | [], h => absurd rfl h
 | op :: r, h => by
  rw [whichOp] at h ⊢
  by_cases hc : (if op = 17 then isTk l i 3 [109, 111, 100] else isTk l i 4 (signB op)) = true
  · rw [if_pos hc]
    by_cases h17 : op = 17
    · rw [if_pos h17] at hc
      obtain ⟨h1, h2⟩ := tk_some hc
      exact ⟨by simp, h1, by rw [h2, h17]; rfl⟩
    · rw [if_neg h17] at hc
      obtain ⟨h1, h2⟩ := tk_some hc
      exact ⟨by simp, h1, h2⟩
  · rw [if_neg hc] at h ⊢
    obtain ⟨h1, h2, h3⟩ := which_some h
    exact ⟨by simp [h1], h2, h3⟩
theorem then_ok {α β : Type} {r : Rs α} {f : α → Nat → Rs β} {y : β} {j : Nat} (h : r.then f = .ok y j) : ∃ x k, r = .ok x k ∧ f x k = .ok y j := by
 cases r with
 | bad a b => cases h
 | ok x k => exact ⟨x, k, rfl, h⟩
theorem ok_inj {α : Type} {x y : α} {i j : Nat} (h : (Rs.ok x i) = .ok y j) : x = y ∧ i = j := by cases h; exact ⟨rfl, rfl⟩
theorem signB_pos (op : Int) : 1 ≤ (signB op).length := by
 unfold signB
 iterate 11 (split; · simp)
 simp
/-- A term of one, two, three operands. -/
theorem told_of {op : Int} {ks : List Tm} (h3 : op ≠ 3) (h4 : op ≠ 4) (h : (op = 6 ∨ op = 7) → ks.length ≠ 1) (hk : toldL ks = true) : toldT (tmOf op ks) = true := by
 unfold tmOf
 rw [toldT, if_neg (fun e => h e.1 e.2), if_neg (fun e => e.elim h3 h4)]
 exact hk
theorem gd_two {op : Int} {t u : Tm} {k m : Nat} (ho : 7 < op ∧ op < 18) (h1 : Gd l i t k) (hw : wgt l (k + 1) = wgt l k + ((signB op).length + 1)) (h2 : Gd l (k + 1) u m) : Gd l i (tmOf op [t, u]) m := by
 have a1 := h1.ij; have a2 := h1.sz; have a3 := h1.len; have b1 := h2.ij; have b2 := h2.sz; have b3 := h2.len
 have hs := signB_pos op
 refine ⟨by omega, h2.jl, ?_, ?_, fun hn => told_of (by omega) (by omega) (fun e => by omega) (by simp [toldL, h1.told hn, h2.told hn])⟩
 · unfold tmOf; simp [Tm.size, Tm.sizeL]; omega
 · unfold tmOf
   rw [lenB, if_neg (by omega), if_neg (by omega), if_neg (by omega), if_neg (by omega), if_neg (by omega), if_neg (by omega)]
   simp [lenBL]
   omega
end
theorem left_gd {l : List Tok} {one : Par} {ops : List Int} (hops : ∀ op ∈ ops, 7 < op ∧ op < 18) (h : GdP l one) : GdP l (left l one ops) := by
 have key : ∀ fuel i t j u m, Gd l i t j → leftL l one ops fuel t j = .ok u m → Gd l i u m := by
  intro fuel
  induction fuel with
  | zero => intro i t j u m hg he; rw [leftL] at he; obtain ⟨rfl, rfl⟩ := ok_inj he; exact hg
  | succ n ih =>
   intro i t j u m hg he
   rw [leftL] at he
   by_cases hz : whichOp l j ops = 0
   · rw [if_pos hz] at he; obtain ⟨rfl, rfl⟩ := ok_inj he; exact hg
   · rw [if_neg hz] at he
     obtain ⟨x, k, h1, h2⟩ := then_ok he
     obtain ⟨w1, w2, w3⟩ := which_some hz
     exact ih i _ k u m (gd_two (hops _ w1) hg w3 (h _ _ _ h1)) h2
 intro i t j he
 obtain ⟨x, k, h1, h2⟩ := then_ok he
 exact key _ i x k t j (h _ _ _ h1) h2
/-- The operands of a row so far. -/
structure GdL (l : List Tok) (op : Int) (i : Nat) (acc : List Tm) (j : Nat) : Prop where
 ij : i < j
 jl : j ≤ l.length
 pos : 0 < acc.length
 sz : Tm.sizeL acc + (acc.length - 1) ≤ j - i
 len : lenBL acc + 6 * (acc.length - 1) + 4 * wgt l i ≤ 4 * wgt l j
 told : NamesOk l → toldL acc = true
theorem many_gd {l : List Tok} {one : Par} {op : Int} (ho : op = 6 ∨ op = 7) (h : GdP l one) : GdP l (many l op one) := by
 have hsb : (signB op).length = 1 := by rcases ho with rfl | rfl <;> rfl
 have hend : ∀ i acc j, GdL l op i acc j → Gd l i (manyEnd op acc) j := by
  intro i acc j hg
  have a1 := hg.ij; have a2 := hg.pos; have a3 := hg.sz; have a4 := hg.len
  match acc, hg with
  | [t], hg => exact ⟨hg.ij, hg.jl, by have := hg.sz; simp [Tm.sizeL] at this; exact this, by have := hg.len; simp [lenBL] at this; exact this, fun hn => by have := hg.told hn; simp [toldL] at this; exact this⟩
  | a :: b :: r, hg =>
   refine ⟨hg.ij, hg.jl, ?_, ?_, fun hn => told_of (by omega) (by omega) (fun _ => by simp) (hg.told hn)⟩
   · have := hg.sz
     show (tmOf op (a :: b :: r)).size ≤ _
     unfold tmOf
     rw [Tm.size]
     simp at this ⊢
     omega
   · have := hg.len
     show lenB (tmOf op (a :: b :: r)) + _ ≤ _
     unfold tmOf
     rw [lenB, if_neg (by omega), if_neg (by omega), if_neg (by omega), if_neg (by omega), if_neg (by omega), if_neg (by omega), hsb]
     simp at this ⊢
     omega
 have key : ∀ fuel i acc j u m, GdL l op i acc j → manyF l op one fuel acc j = .ok u m → Gd l i u m := by
  intro fuel
  induction fuel with
  | zero => intro i acc j u m hg he; rw [manyF] at he; obtain ⟨rfl, rfl⟩ := ok_inj he; exact hend _ _ _ hg
  | succ n ih =>
   intro i acc j u m hg he
   rw [manyF] at he
   by_cases hz : whichOp l j [op] = 0
   · rw [if_pos hz] at he; obtain ⟨rfl, rfl⟩ := ok_inj he; exact hend _ _ _ hg
   · rw [if_neg hz] at he
     obtain ⟨x, k, h1, h2⟩ := then_ok he
     obtain ⟨w1, w2, w3⟩ := which_some hz
     have w4 : whichOp l j [op] = op := by simpa using w1
     rw [w4, hsb] at w3
     have hx := h _ _ _ h1
     have b1 := hx.ij; have b2 := hx.sz; have b3 := hx.len
     have a1 := hg.ij; have a2 := hg.pos; have a3 := hg.sz; have a4 := hg.len
     refine ih i _ k u m ⟨by omega, hx.jl, by simp, ?_, ?_, fun hn => by rw [toldL_app, hg.told hn]; simp [toldL, hx.told hn]⟩ h2
     · rw [sizeL_app, List.length_append]; simp [Tm.sizeL]; omega
     · rw [lenBL_app, List.length_append]; simp [lenBL]; omega
 intro i t j he
 obtain ⟨x, k, h1, h2⟩ := then_ok he
 have hx := h _ _ _ h1
 have b1 := hx.ij; have b2 := hx.sz; have b3 := hx.len
 exact key _ i [x] k t j ⟨hx.ij, hx.jl, by simp, by simp [Tm.sizeL]; exact b2, by simp [lenBL]; exact b3, fun hn => by simp [toldL, hx.told hn]⟩ h2
/-- The levels below are fine. -/
def GdS (l : List Tok) (s : Option Par) : Prop := ∀ p, s = some p → GdP l p
theorem inner_gd {l : List Tok} {s : Option Par} (h : GdS l s) {i : Nat} {t : Tm} {j : Nat} (he : inner s i = .ok t j) : Gd l (i + 1) t j := by
 unfold inner at he
 cases s with
 | none => cases he
 | some p => exact h p rfl _ _ _ he
theorem unit_gd {l : List Tok} {s : Option Par} (h : GdS l s) : GdP l (unitF l s) := by
 intro i t j he
 unfold unitF at he
 by_cases h1 : isTk l i 4 [45] = true
 · rw [if_pos h1] at he
   obtain ⟨a1, a2⟩ := tk_some h1
   by_cases hk : isKd l (i + 1) 1 = true
   · rw [if_pos hk] at he
     obtain ⟨rfl, rfl⟩ := ok_inj he
     obtain ⟨z, -, -, b1, b2⟩ := kd_some hk
     simp at a2
     refine ⟨by omega, by omega, by simp [tmNum, Tm.size, Tm.sizeL], ?_, fun _ => by simp [tmNum, toldT, toldL]⟩
     have hl : lenB (tmNum (-numAt l (i + 1))) ≤ 4 := by unfold tmNum; rw [lenB, if_pos rfl]; omega
     show _ + 4 * wgt l i ≤ 4 * wgt l (i + 1 + 1)
     omega
   · rw [if_neg hk] at he; cases he
 rw [if_neg h1] at he
 by_cases h2 : isTk l i 3 wTrue = true
 · rw [if_pos h2] at he
   obtain ⟨a1, a2⟩ := tk_some h2
   obtain ⟨rfl, rfl⟩ := ok_inj he
   have hw : wTrue.length = 4 := rfl
   exact ⟨by omega, by omega, by simp [tmBool, Tm.size, Tm.sizeL], by simp [tmBool, lenB]; omega, fun _ => by simp [tmBool, toldT, toldL]⟩
 rw [if_neg h2] at he
 by_cases h3 : isTk l i 3 wFalse = true
 · rw [if_pos h3] at he
   obtain ⟨a1, a2⟩ := tk_some h3
   obtain ⟨rfl, rfl⟩ := ok_inj he
   have hw : wFalse.length = 5 := rfl
   exact ⟨by omega, by omega, by simp [tmBool, Tm.size, Tm.sizeL], by simp [tmBool, lenB]; omega, fun _ => by simp [tmBool, toldT, toldL]⟩
 rw [if_neg h3] at he
 by_cases h4 : isTk l i 3 wNext = true
 · rw [if_pos h4] at he
   by_cases ho : isTk l (i + 1) 4 [40] = true
   · rw [if_pos ho] at he
     by_cases hk : isKd l (i + 2) 2 = true
     · rw [if_pos hk] at he
       by_cases hc : isTk l (i + 3) 4 [41] = true
       · rw [if_pos hc] at he
         obtain ⟨rfl, rfl⟩ := ok_inj he
         obtain ⟨a1, a2⟩ := tk_some h4
         obtain ⟨b1, b2⟩ := tk_some ho
         obtain ⟨z, hz, hzk, c1, c2⟩ := kd_some hk
         obtain ⟨d1, d2⟩ := tk_some hc
         have hw : wNext.length = 4 := rfl
         simp at b2 d2
         have e1 : i + 1 + 1 = i + 2 := rfl
         have e2 : i + 2 + 1 = i + 3 := rfl
         have e3 : i + 3 + 1 = i + 4 := rfl
         rw [e1] at b2; rw [e2] at c2; rw [e3] at d2
         have ht : textAt l (i + 2) = z.text := by unfold textAt; rw [hz]
         rw [ht]
         refine ⟨by omega, by omega, by simp [tmName, Tm.size, Tm.sizeL]; try omega, ?_, fun hn => ?_⟩
         · have hl : lenB (tmName 4 z.text) = z.text.length + 6 := by unfold tmName; rw [lenB, if_neg (by decide), if_neg (by decide), if_neg (by decide), if_pos rfl]; show z.text.toArray.size + 6 = _; simp
           omega
         · unfold tmName
           rw [toldT, if_neg (by omega), if_pos (.inr rfl)]
           exact hn z (List.mem_of_getElem? hz) hzk
       · rw [if_neg hc] at he; cases he
     · rw [if_neg hk] at he; cases he
   · rw [if_neg ho] at he; cases he
 rw [if_neg h4] at he
 by_cases h5 : isTk l i 4 [40] = true
 · rw [if_pos h5] at he
   obtain ⟨x, k, e1, e2⟩ := then_ok he
   by_cases hc : isTk l k 4 [41] = true
   · rw [if_pos hc] at e2
     obtain ⟨rfl, rfl⟩ := ok_inj e2
     have hx := inner_gd h e1
     obtain ⟨a1, a2⟩ := tk_some h5
     obtain ⟨d1, d2⟩ := tk_some hc
     have b1 := hx.ij; have b2 := hx.sz; have b3 := hx.len
     exact ⟨by omega, by omega, by omega, by omega, hx.told⟩
   · rw [if_neg hc] at e2; cases e2
 rw [if_neg h5] at he
 by_cases h6 : isTk l i 3 wIf = true
 · rw [if_pos h6] at he
   unfold choiceB at he
   obtain ⟨a, k1, e1, he⟩ := then_ok he
   by_cases hc1 : isTk l k1 3 wThen = true
   · rw [if_pos hc1] at he
     obtain ⟨b, k2, e2, he⟩ := then_ok he
     by_cases hc2 : isTk l k2 3 wElse = true
     · rw [if_pos hc2] at he
       obtain ⟨c, k3, e3, he⟩ := then_ok he
       obtain ⟨rfl, rfl⟩ := ok_inj he
       have ha := inner_gd h e1
       have hb := inner_gd h e2
       have hc := inner_gd h e3
       obtain ⟨w1, w2⟩ := tk_some h6
       obtain ⟨w3, w4⟩ := tk_some hc1
       obtain ⟨w5, w6⟩ := tk_some hc2
       have q1 : wIf.length = 2 := rfl
       have q2 : wThen.length = 4 := rfl
       have q3 : wElse.length = 4 := rfl
       have a1 := ha.ij; have a2 := ha.sz; have a3 := ha.len
       have b1 := hb.ij; have b2 := hb.sz; have b3 := hb.len
       have c1 := hc.ij; have c2 := hc.sz; have c3 := hc.len
       refine ⟨by omega, hc.jl, by unfold tmOf; simp [Tm.size, Tm.sizeL]; omega, by unfold tmOf; simp [lenB, lenBL]; omega, fun hn => told_of (by decide) (by decide) (fun _ => by simp) (by simp [toldL, ha.told hn, hb.told hn, hc.told hn])⟩
     · rw [if_neg hc2] at he; cases he
   · rw [if_neg hc1] at he; cases he
 rw [if_neg h6] at he
 by_cases h7 : isKd l i 2 = true
 · rw [if_pos h7] at he
   obtain ⟨z, hz, hzk, c1, c2⟩ := kd_some h7
   obtain ⟨rfl, rfl⟩ := ok_inj he
   have ht : textAt l i = z.text := by unfold textAt; rw [hz]
   rw [ht]
   refine ⟨by omega, by omega, by simp [tmName, Tm.size, Tm.sizeL], ?_, fun hn => ?_⟩
   · have hl : lenB (tmName 3 z.text) = z.text.length := by unfold tmName; rw [lenB, if_neg (by decide), if_neg (by decide), if_pos rfl]; show z.text.toArray.size = _; simp
     omega
   · unfold tmName
     rw [toldT, if_neg (by omega), if_pos (.inl rfl)]
     exact hn z (List.mem_of_getElem? hz) hzk
 rw [if_neg h7] at he
 by_cases h8 : isKd l i 1 = true
 · rw [if_pos h8] at he
   obtain ⟨z, hz, hzk, c1, c2⟩ := kd_some h8
   obtain ⟨rfl, rfl⟩ := ok_inj he
   refine ⟨by omega, by omega, by simp [tmNum, Tm.size, Tm.sizeL], ?_, fun _ => by simp [tmNum, toldT, toldL]⟩
   have hl : lenB (tmNum (numAt l i)) ≤ 4 := by unfold tmNum; rw [lenB, if_pos rfl]; omega
   omega
 rw [if_neg h8] at he
 cases he
theorem imp_gd {l : List Tok} {s : Option Par} {or : Par} (h : GdS l s) (ho : GdP l or) : GdP l (impB l s or) := by
 intro i t j he
 unfold impB at he
 obtain ⟨x, k, e1, he⟩ := then_ok he
 have hx := ho _ _ _ e1
 by_cases hz : whichOp l k [8] = 0
 · rw [if_pos hz] at he; obtain ⟨rfl, rfl⟩ := ok_inj he; exact hx
 · rw [if_neg hz] at he
   obtain ⟨u, m, e2, he⟩ := then_ok he
   obtain ⟨rfl, rfl⟩ := ok_inj he
   obtain ⟨w1, w2, w3⟩ := which_some hz
   have w4 : whichOp l k [8] = 8 := by simpa using w1
   rw [w4] at w3
   exact gd_two (by omega) hx w3 (inner_gd h e2)
theorem term_gd {l : List Tok} {imp : Par} (h : GdP l imp) : GdP l (termB l imp) := by
 intro i t j he
 unfold termB at he
 obtain ⟨x, k, e1, he⟩ := then_ok he
 have hx := h _ _ _ e1
 by_cases hz : whichOp l k [9] = 0
 · rw [if_pos hz] at he; obtain ⟨rfl, rfl⟩ := ok_inj he; exact hx
 · rw [if_neg hz] at he
   obtain ⟨u, m, e2, he⟩ := then_ok he
   obtain ⟨rfl, rfl⟩ := ok_inj he
   obtain ⟨w1, w2, w3⟩ := which_some hz
   have w4 : whichOp l k [9] = 9 := by simpa using w1
   rw [w4] at w3
   exact gd_two (by omega) hx w3 (h _ _ _ e2)
theorem not_gd {l : List Tok} {s : Option Par} {sum : Par} (h : GdS l s) (ho : GdP l sum) : GdP l (notB l s sum) := by
 intro i t j he
 unfold notB at he
 by_cases h1 : isTk l i 4 [33] = true
 · rw [if_pos h1] at he
   obtain ⟨x, k, e1, he⟩ := then_ok he
   obtain ⟨rfl, rfl⟩ := ok_inj he
   have hx := inner_gd h e1
   obtain ⟨a1, a2⟩ := tk_some h1
   have b1 := hx.ij; have b2 := hx.sz; have b3 := hx.len
   simp at a2
   refine ⟨by omega, hx.jl, by unfold tmOf; simp [Tm.size, Tm.sizeL]; omega, by unfold tmOf; simp [lenB, lenBL]; omega, fun hn => told_of (by decide) (by decide) (fun e => by omega) (by simp [toldL, hx.told hn])⟩
 rw [if_neg h1] at he
 obtain ⟨x, k, e1, he⟩ := then_ok he
 have hx := ho _ _ _ e1
 by_cases hz : whichOp l k [10, 11, 12, 13] = 0
 · rw [if_pos hz] at he; obtain ⟨rfl, rfl⟩ := ok_inj he; exact hx
 · rw [if_neg hz] at he
   obtain ⟨u, m, e2, he⟩ := then_ok he
   obtain ⟨rfl, rfl⟩ := ok_inj he
   obtain ⟨w1, w2, w3⟩ := which_some hz
   exact gd_two (by simp at w1; omega) hx w3 (ho _ _ _ e2)
structure GdLvl (l : List Tok) (v : Lvl) : Prop where
 term : GdP l v.term
 imp : GdP l v.imp
 not : GdP l v.not
theorem lvlB_gd {l : List Tok} {s : Option Lvl} (h : ∀ v, s = some v → GdLvl l v) : GdLvl l (lvlB l s) := by
 have ht : GdS l (s.map Lvl.term) := fun p hp => by
  cases s with
  | none => cases hp
  | some v => simp at hp; subst hp; exact (h v rfl).term
 have hi : GdS l (s.map Lvl.imp) := fun p hp => by
  cases s with
  | none => cases hp
  | some v => simp at hp; subst hp; exact (h v rfl).imp
 have hn : GdS l (s.map Lvl.not) := fun p hp => by
  cases s with
  | none => cases hp
  | some v => simp at hp; subst hp; exact (h v rfl).not
 have hsum : GdP l (sumB l (s.map Lvl.term)) := left_gd (fun op ho => by simp at ho; omega) (left_gd (fun op ho => by simp at ho; omega) (unit_gd ht))
 have hnot : GdP l (notOf l s) := not_gd hn hsum
 have himp : GdP l (impOf l s) := imp_gd hi (many_gd (.inr rfl) (many_gd (.inl rfl) hnot))
 exact ⟨term_gd himp, himp, hnot⟩
theorem lvl_gd (l : List Tok) : ∀ r, GdLvl l (lvl l r)
 | 0 => by rw [lvl]; exact lvlB_gd (fun v h => by cases h)
 | r + 1 => by rw [lvl]; exact lvlB_gd (fun v h => by cases h; exact lvl_gd l r)
end Go.Proofs.YtnbphgeepnknlaaGreatDoor
