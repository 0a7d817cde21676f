/- Plain words: the parser gives back the term whose tokens it reads: the proof. -/
import Derived.Test.YtnbphgeepnknlaaDoorQRndQ
namespace Go.Proofs.YtnbphgeepnknlaaDoor
set_option linter.unusedVariables false
set_option linter.unusedSectionVars false

theorem node_eq {t : Tm} {d : Nat} (h : t.okT d) (ho : 5 ≤ t.op) : t = tmOf t.op t.kids := by
  have hw := wrong_ok (okT_open h).2.1
  cases t with
  | mk op n s l =>
    simp only [Tm.op, Tm.num, Tm.name, Tm.kids] at hw ho ⊢
    obtain ⟨-, -, -, -, -, -, w3, -, w4⟩ := hw
    have h1 := w3 (by omega) (by omega)
    have h2 := name_nil (w4 (by omega))
    subst h1 h2
    rfl
theorem op_range {t : Tm} {d : Nat} (h : t.okT d) : 1 ≤ t.op ∧ t.op ≤ 18 := by
  have hw := (wrong_ok (okT_open h).2.1).1
  unfold kidsOf at hw
  by_cases h1 : t.op = 1 ∨ t.op = 2 ∨ t.op = 3 ∨ t.op = 4
  · omega
  rw [if_neg h1] at hw
  by_cases h2 : t.op = 5
  · omega
  rw [if_neg h2] at hw
  by_cases h3 : t.op = 6 ∨ t.op = 7
  · omega
  rw [if_neg h3] at hw
  by_cases h4 : t.op = 8 ∨ t.op = 9 ∨ t.op = 10 ∨ t.op = 11 ∨ t.op = 12 ∨ t.op = 13 ∨ t.op = 14 ∨ t.op = 15 ∨ t.op = 16 ∨ t.op = 17
  · omega
  rw [if_neg h4] at hw
  by_cases h5 : t.op = 18
  · omega
  rw [if_neg h5] at hw
  simp at hw
theorem kids_count {t : Tm} {d : Nat} (h : t.okT d) : (t.op ≤ 4 → t.kids.length = 0) ∧ (t.op = 5 → t.kids.length = 1) ∧ (8 ≤ t.op → t.op ≤ 17 → t.kids.length = 2) ∧ (t.op = 18 → t.kids.length = 3) ∧ (t.op = 6 ∨ t.op = 7 → 1 ≤ t.kids.length) := by
  have hr := op_range h
  have hw := wrong_ok (okT_open h).2.1
  obtain ⟨-, -, -, w1, w2, -⟩ := hw
  unfold kidsOf at w1 w2
  refine ⟨fun h1 => ?_, fun h1 => ?_, fun h1 h2 => ?_, fun h1 => ?_, fun h1 => ?_⟩
  · rw [if_pos (by omega)] at w1 w2; simp only at w1 w2; omega
  · rw [if_neg (by omega), if_pos h1] at w1 w2; simp only at w1 w2; omega
  · rw [if_neg (by omega), if_neg (by omega), if_neg (by omega), if_pos (by omega)] at w1 w2; simp only at w1 w2; omega
  · rw [if_neg (by omega), if_neg (by omega), if_neg (by omega), if_neg (by omega), if_pos h1] at w1 w2; simp only at w1 w2; omega
  · rw [if_neg (by omega), if_neg (by omega), if_pos h1] at w1 w2; simp only at w1 w2; omega
theorem len1 {α : Type} {l : List α} (h : l.length = 1) : ∃ a, l = [a] := by
  match l, h with
  | [a], _ => exact ⟨a, rfl⟩
theorem len2 {α : Type} {l : List α} (h : l.length = 2) : ∃ a b, l = [a, b] := by
  match l, h with
  | [a, b], _ => exact ⟨a, b, rfl⟩
theorem len3 {α : Type} {l : List α} (h : l.length = 3) : ∃ a b c, l = [a, b, c] := by
  match l, h with
  | [a, b, c], _ => exact ⟨a, b, c, rfl⟩
theorem tkJoin_len (op : Int) (ends : Bool) : ∀ (ks : List Tm) (n : Nat), 0 < n → ks.length ≤ (tkJoin op ks n ends).length
  | [], n, _ => by simp
  | k :: ks, n, hn => by
    have := tkJoin_len op ends ks (n + 1) (by omega)
    rw [tkJoin, if_neg (by omega)]
    simp
    omega
theorem bodyOf_bin {t : Tm} {ends : Bool} (h1 : 6 ≤ t.op) (h2 : t.op ≤ 17) : bodyOf t ends = tkJoin t.op t.kids 0 ends := by
  unfold bodyOf bodyTk
  rw [if_neg (by omega), if_neg (by omega), if_neg (by omega)]
section
variable {l : List Tok}
theorem body_l6 {t : Tm} {d : Nat} (hok : t.okT d) (ho : t.op = 14 ∨ t.op = 15) (ih : ∀ k ∈ t.kids, PT l k (d + 1)) (ends : Bool) (r i : Nat) (hr : 129 ≤ r + 2 * d) (hat : At l i (bodyOf t ends))
    (hf : Follow l (i + (bodyOf t ends).length) 7) (he : ends = true → Follow l (i + (bodyOf t ends).length) 0) : Lft l (prodB l ((sub l r).map Lvl.term)) [14, 15] i t (i + (bodyOf t ends).length) := by
  obtain ⟨a, b, hk⟩ := len2 ((kids_count hok).2.2.1 (by omega) (by omega))
  have hne := node_eq hok (by omega)
  rw [bodyOf_bin (by omega) (by omega), hk, tkJoin2] at hat hf he ⊢
  have e0 : asksN t.op 0 = 6 := by rcases ho with h | h <;> rw [h] <;> rfl
  have e1 : asksN t.op 1 = 7 := by rcases ho with h | h <;> rw [h] <;> rfl
  have er : ruleOf t.op = 6 := by rcases ho with h | h <;> rw [h] <;> rfl
  rw [e0, e1] at hat hf he ⊢
  rw [hk] at hne
  have ha := (ih a (by rw [hk]; simp)).b6 false r i (by omega) hat.left (follow_op (by simpa using hat.right) (by omega) (by omega) (by omega)) (fun h => by cases h)
  have hatB : At l (i + (tkT a 6 false).length + 1) (tkT b 7 ends) := hat.right.right
  have hlen : i + (tkT a 6 false ++ ([opTk t.op] ++ tkT b 7 ends)).length = i + (tkT a 6 false).length + 1 + (tkT b 7 ends).length := by simp; omega
  rw [hlen] at hf he
  have hb := (ih b (by rw [hk]; simp)).a 7 ends r _ (by omega) (by omega) hatB hf he
  rw [hne]
  exact lft_step hat (binOps_mem (by omega) (by omega)) (by decide) (by rcases ho with h | h <;> rw [h] <;> decide) ha hb
theorem body_l7 {t : Tm} {d : Nat} (hok : t.okT d) (ho : t.op = 16 ∨ t.op = 17) (ih : ∀ k ∈ t.kids, PT l k (d + 1)) (ends : Bool) (r i : Nat) (hr : 129 ≤ r + 2 * d) (hat : At l i (bodyOf t ends))
    (he : ends = true → Follow l (i + (bodyOf t ends).length) 0) : Lft l (unitF l ((sub l r).map Lvl.term)) [16, 17] i t (i + (bodyOf t ends).length) := by
  obtain ⟨a, b, hk⟩ := len2 ((kids_count hok).2.2.1 (by omega) (by omega))
  have hne := node_eq hok (by omega)
  rw [bodyOf_bin (by omega) (by omega), hk, tkJoin2] at hat he ⊢
  have e0 : asksN t.op 0 = 7 := by rcases ho with h | h <;> rw [h] <;> rfl
  have e1 : asksN t.op 1 = 8 := by rcases ho with h | h <;> rw [h] <;> rfl
  rw [e0, e1] at hat he ⊢
  rw [hk] at hne
  have ha := (ih a (by rw [hk]; simp)).b7 false r i (by omega) hat.left (fun h => by cases h)
  have hatB : At l (i + (tkT a 7 false).length + 1) (tkT b 8 ends) := hat.right.right
  have hlen : i + (tkT a 7 false ++ ([opTk t.op] ++ tkT b 8 ends)).length = i + (tkT a 7 false).length + 1 + (tkT b 8 ends).length := by simp; omega
  rw [hlen] at he
  have hf8 : Follow l (i + (tkT a 7 false).length + 1 + (tkT b 8 ends).length) 8 := fun op h1 h2 h3 => by
    exfalso
    have : ∀ o ∈ binOps, ruleOf o < 8 := by decide
    have := this op (binOps_mem h1 h2)
    omega
  have hb := (ih b (by rw [hk]; simp)).a 8 ends r _ (by omega) (by omega) hatB hf8 he
  rw [hne]
  exact lft_step hat (binOps_mem (by omega) (by omega)) (by decide) (by rcases ho with h | h <;> rw [h] <;> decide) ha hb
theorem sub_pos {r d : Nat} (h : 129 ≤ r + 2 * d) (hd : d ≤ 64) : ∃ r', r = r' + 1 ∧ sub l r = some (lvl l r') := by
  cases r with
  | zero => omega
  | succ r' => exact ⟨r', rfl, rfl⟩
theorem body_ok {t : Tm} {d : Nat} (hok : t.okT d) (htl : toldT t = true) (ih : ∀ k ∈ t.kids, PT l k (d + 1)) (ends : Bool) (r i : Nat) (hr : 129 ≤ r + 2 * d) (hat : At l i (bodyOf t ends))
    (hf : Follow l (i + (bodyOf t ends).length) (ruleOf t.op)) (he : ends = true → Follow l (i + (bodyOf t ends).length) 0) (h18 : t.op = 18 → ends = true) : lev l r (ruleOf t.op) i = .ok t (i + (bodyOf t ends).length) := by
  have hrg := op_range hok
  have hkc := kids_count hok
  have hd := (okT_open hok).1
  by_cases c1 : t.op ≤ 4
  · have hk := List.eq_nil_of_length_eq_zero (hkc.1 c1)
    have ho : t.op = 1 ∨ t.op = 2 ∨ t.op = 3 ∨ t.op = 4 := by omega
    have hb : bodyOf t ends = loneTk t.op t.num t.name.data.toList := by unfold bodyOf bodyTk; rw [if_pos ho]
    have er : ruleOf t.op = 8 := by rcases ho with h | h | h | h <;> rw [h] <;> rfl
    rw [hb] at hat ⊢
    rw [er]
    cases t with
    | mk op n s ks =>
      simp only [Tm.kids] at hk
      subst hk
      exact lone_ok hok ho _ i hat
  have hne := node_eq hok (by omega)
  by_cases c5 : t.op = 5
  · obtain ⟨k, hk⟩ := len1 (hkc.2.1 c5)
    have hb : bodyOf t ends = [sg [33]] ++ tkT k 4 ends := by unfold bodyOf bodyTk; rw [if_neg (by omega), if_pos c5, hk, tkNot]
    have er : ruleOf t.op = 4 := by rw [c5]; rfl
    rw [hb] at hat hf he ⊢
    rw [er] at hf ⊢
    obtain ⟨r', rfl, hsub⟩ := sub_pos (l := l) hr hd
    have hlen : i + ([sg [33]] ++ tkT k 4 ends).length = i + 1 + (tkT k 4 ends).length := by simp; omega
    rw [hlen] at hf he ⊢
    have hkk := (ih k (by rw [hk]; simp)).a 4 ends r' (i + 1) (by omega) (by omega) hat.right hf he
    obtain ⟨u, hu, a1, a2, a3⟩ := At.head (b := tkT k 4 ends) hat
    simp only [sg] at a1 a2 a3
    rw [lev4, hsub, hne, hk]
    unfold notB
    rw [isTk_at hu, a1, a3]
    have hkk' : (lvl l r').not (i + 1) = .ok k (i + 1 + (tkT k 4 ends).length) := hkk
    simp [inner, hkk', c5]
  by_cases c67 : t.op = 6 ∨ t.op = 7
  · have hk1 := hkc.2.2.2.2 c67
    have hk2 : t.kids.length ≠ 1 := fun h => by
      rw [toldT_eq, if_pos ⟨c67, h⟩] at htl
      cases htl
    obtain ⟨op, hop⟩ : ∃ op, op = t.op := ⟨_, rfl⟩
    rw [bodyOf_bin (by omega) (by omega)] at hat hf he ⊢
    rw [← hop] at hat hf he hne c67 ⊢
    cases hks : t.kids with
    | nil => rw [hks] at hk1; simp at hk1
    | cons k0 ks =>
      have hks0 : ks ≠ [] := fun h => by rw [hks, h] at hk2; simp at hk2
      rw [hks] at hat hf he hne ih
      have htk : tkJoin op (k0 :: ks) 0 ends = tkT k0 (asksN op 0) false ++ tkJoin op ks 1 ends := by
        rw [tkJoin, if_pos rfl]
        have : ks.isEmpty = false := by cases ks with | nil => exact absurd rfl hks0 | cons _ _ => rfl
        rw [this]; simp
      rw [htk] at hat hf he ⊢
      have hlen : i + (tkT k0 (asksN op 0) false ++ tkJoin op ks 1 ends).length = i + (tkT k0 (asksN op 0) false).length + (tkJoin op ks 1 ends).length := by simp; omega
      rw [hlen] at hf he ⊢
      have hask8 : asksN op 0 ≤ 8 := by rcases c67 with h | h <;> rw [h] <;> decide
      have hlt : ruleOf op < asksN op 0 := by rcases c67 with h | h <;> rw [h] <;> decide
      have hfol : Follow l (i + (tkT k0 (asksN op 0) false).length) (asksN op 0) := by
        cases hks' : ks with
        | nil => exact absurd hks' hks0
        | cons k1 ks1 =>
          have h9 := hat.right
          rw [hks', tkJoin, if_neg (by omega)] at h9
          exact follow_op (b := tkT k1 (asksN op 1) (ends && ks1.isEmpty) ++ tkJoin op ks1 (1 + 1) ends) (by simpa using h9) (by omega) (by omega) hlt
      have h0 := (ih k0 (by simp)).a (asksN op 0) false r i hask8 (by omega) hat.left hfol (fun h => by cases h)
      have hKl : ks.length ≤ l.length := by
        have h1 := tkJoin_len op ends ks 1 (by omega)
        have h2 := hat.right
        by_cases h3 : tkJoin op ks 1 ends = []
        · rw [h3] at h1; exact absurd (by simpa using h1) hks0
        · have := h2.le h3; omega
      have hm := many_ok c67 (one := lev l r (asksN op 0)) rfl (by omega) ks [k0] (i + (tkT k0 (asksN op 0) false).length) 1 l.length (by simp) (by omega) (fun x hx => ih x (by simp [hx])) hat.right hf he hKl
      have hend : manyEnd op ([k0] ++ ks) = tmOf op (k0 :: ks) := by
        cases ks with
        | nil => exact absurd rfl hks0
        | cons _ _ => rfl
      rw [hend] at hm
      rw [hne]
      have hgo : many l op (lev l r (asksN op 0)) i = .ok (tmOf op (k0 :: ks)) (i + (tkT k0 (asksN op 0) false).length + (tkJoin op ks 1 ends).length) := by
        unfold many
        rw [h0, Rs.then_ok, hm]
      rcases c67 with h | h
      · subst h
        have e : lev l r (asksN 6 0) = notOf l (sub l r) := lev4 r
        rw [e] at hgo
        exact hgo
      · subst h; exact hgo
  by_cases c18 : t.op = 18
  · obtain ⟨a, b, c, hk⟩ := len3 (hkc.2.2.2.1 c18)
    have hends := h18 c18
    have hb : bodyOf t ends = ifTk 0 :: (tkT a 0 true ++ (ifTk 1 :: (tkT b 0 true ++ (ifTk 2 :: tkT c 0 true)))) := by
      unfold bodyOf bodyTk
      rw [if_neg (by omega), if_neg (by omega), if_pos c18, hk]
      simp [tkIf]
    have er : ruleOf t.op = 8 := by rw [c18]; rfl
    rw [hb] at hat hf he ⊢
    rw [er]
    obtain ⟨r', rfl, hsub⟩ := sub_pos (l := l) hr hd
    obtain ⟨TA, hTA⟩ : ∃ T, T = tkT a 0 true := ⟨_, rfl⟩
    obtain ⟨TB, hTB⟩ : ∃ T, T = tkT b 0 true := ⟨_, rfl⟩
    obtain ⟨TC, hTC⟩ : ∃ T, T = tkT c 0 true := ⟨_, rfl⟩
    rw [← hTA, ← hTB, ← hTC] at hat he ⊢
    have hlen : i + (ifTk 0 :: (TA ++ (ifTk 1 :: (TB ++ (ifTk 2 :: TC))))).length = i + 1 + TA.length + 1 + TB.length + 1 + TC.length := by simp; omega
    rw [hlen] at he ⊢
    have hA := hat.tail.left
    have h1 := hat.tail.right
    have hB := h1.tail.left
    have h2 := h1.tail.right
    have hC := h2.tail
    have pa := (ih a (by rw [hk]; simp)).a 0 true r' (i + 1) (by omega) (by omega) (by rw [← hTA]; exact hA) (by rw [← hTA]; exact follow_tk h1 (by unfold closes; decide)) (fun _ => by rw [← hTA]; exact follow_tk h1 (by unfold closes; decide))
    have pb := (ih b (by rw [hk]; simp)).a 0 true r' (i + 1 + TA.length + 1) (by omega) (by omega) (by rw [← hTB]; exact hB) (by rw [← hTB]; exact follow_tk h2 (by unfold closes; decide)) (fun _ => by rw [← hTB]; exact follow_tk h2 (by unfold closes; decide))
    have pc := (ih c (by rw [hk]; simp)).a 0 true r' (i + 1 + TA.length + 1 + TB.length + 1) (by omega) (by omega) (by rw [← hTC]; exact hC) (by rw [← hTC]; exact he hends) (fun _ => by rw [← hTC]; exact he hends)
    rw [← hTA] at pa
    rw [← hTB] at pb
    rw [← hTC] at pc
    obtain ⟨u, hu, a1, a2, a3⟩ := hat.head
    obtain ⟨v, hv, b1, b2, b3⟩ := h1.head
    obtain ⟨x, hx, d1, d2, d3⟩ := h2.head
    simp only [ifTk, wd] at a1 a2 a3 b1 b2 b3 d1 d2 d3
    show unitF l ((sub l (r' + 1)).map Lvl.term) i = _
    rw [hsub, hne, hk, c18]
    have pa' : (lvl l r').term (i + 1) = .ok a (i + 1 + TA.length) := pa
    have pb' : (lvl l r').term (i + 1 + TA.length + 1) = .ok b (i + 1 + TA.length + 1 + TB.length) := pb
    have pc' : (lvl l r').term (i + 1 + TA.length + 1 + TB.length + 1) = .ok c (i + 1 + TA.length + 1 + TB.length + 1 + TC.length) := pc
    have q1 : isTk l (i + 1 + TA.length) 3 wThen = true := by rw [isTk_at hv, b1, b3]; decide
    have q2 : isTk l (i + 1 + TA.length + 1 + TB.length) 3 wElse = true := by rw [isTk_at hx, d1, d3]; decide
    have hch : choiceB l ((some (lvl l r')).map Lvl.term) i = .ok (tmOf 18 [a, b, c]) (i + 1 + TA.length + 1 + TB.length + 1 + TC.length) := by
      simp [choiceB, inner, pa', pb', pc', q1, q2]
    unfold unitF
    rw [isTk_at hu, isTk_at hu, isTk_at hu, isTk_at hu, isTk_at hu, isTk_at hu, a1, a3, hch]
    simp [wIf, wTrue, wFalse, wNext]
  obtain ⟨a, b, hk⟩ := len2 (hkc.2.2.1 (by omega) (by omega))
  by_cases c14 : t.op = 14 ∨ t.op = 15
  · have er : ruleOf t.op = 6 := by rcases c14 with h | h <;> rw [h] <;> rfl
    rw [er] at hf ⊢
    exact lft_end (body_l6 hok c14 ih ends r i hr hat (hf.mono (by omega)) he) hat (follow_list hf (by decide))
  by_cases c16 : t.op = 16 ∨ t.op = 17
  · have er : ruleOf t.op = 7 := by rcases c16 with h | h <;> rw [h] <;> rfl
    rw [er] at hf ⊢
    exact lft_end (body_l7 hok c16 ih ends r i hr hat he) hat (follow_list hf (by decide))
  rw [bodyOf_bin (by omega) (by omega), hk, tkJoin2] at hat hf he ⊢
  rw [hk] at hne
  obtain ⟨TA, hTA⟩ : ∃ T, T = tkT a (asksN t.op 0) false := ⟨_, rfl⟩
  obtain ⟨TB, hTB⟩ : ∃ T, T = tkT b (asksN t.op 1) ends := ⟨_, rfl⟩
  rw [← hTA, ← hTB] at hat hf he ⊢
  have hlen : i + (TA ++ ([opTk t.op] ++ TB)).length = i + TA.length + 1 + TB.length := by simp; omega
  rw [hlen] at hf he ⊢
  have hA := hat.left
  have hO : At l (i + TA.length) (opTk t.op :: TB) := by simpa using hat.right
  have hB := hO.tail
  have hbm : t.op ∈ binOps := binOps_mem (by omega) (by omega)
  have hlt : ruleOf t.op < asksN t.op 0 := by
    have : t.op = 8 ∨ t.op = 9 ∨ t.op = 10 ∨ t.op = 11 ∨ t.op = 12 ∨ t.op = 13 := by omega
    rcases this with h | h | h | h | h | h <;> rw [h] <;> decide
  have hask8 : asksN t.op 0 ≤ 8 ∧ asksN t.op 1 ≤ 8 ∧ ruleOf t.op ≤ asksN t.op 1 := by
    have : t.op = 8 ∨ t.op = 9 ∨ t.op = 10 ∨ t.op = 11 ∨ t.op = 12 ∨ t.op = 13 := by omega
    rcases this with h | h | h | h | h | h <;> rw [h] <;> decide
  have pa := fun r' (hr' : 130 ≤ r' + 2 * (d + 1)) => (ih a (by rw [hk]; simp)).a (asksN t.op 0) false r' i (by omega) hr' (by rw [← hTA]; exact hA) (by rw [← hTA]; exact follow_op hO (by omega) (by omega) hlt) (fun h => by cases h)
  have pb := fun r' (hr' : 130 ≤ r' + 2 * (d + 1)) => (ih b (by rw [hk]; simp)).a (asksN t.op 1) ends r' (i + TA.length + 1) (by omega) hr' (by rw [← hTB]; exact hB) (by rw [← hTB]; exact hf.mono hask8.2.2) (fun h => by rw [← hTB]; exact he h)
  rw [← hTA] at pa
  rw [← hTB] at pb
  by_cases c8 : t.op = 8
  · rw [c8] at pa pb hO
    obtain ⟨r', rfl, hsub⟩ := sub_pos (l := l) hr hd
    rw [hne, c8]
    show lev l (r' + 1) 1 i = _
    rw [lev1, hsub]
    have pa' : orOf l (some (lvl l r')) i = .ok a (i + TA.length) := by rw [← hsub]; exact pa (r' + 1) (by omega)
    have pb' : (lvl l r').imp (i + TA.length + 1) = .ok b (i + TA.length + 1 + TB.length) := pb r' (by omega)
    have hw := whichOp_hit hO
    unfold impB
    rw [pa', Rs.then_ok, hw, if_neg (by decide)]
    simp [inner, pb']
  by_cases c9 : t.op = 9
  · rw [c9] at pa pb hO
    rw [hne, c9]
    show lev l r 0 i = _
    rw [lev0]
    have pa' : impOf l (sub l r) i = .ok a (i + TA.length) := by have := pa r (by omega); rwa [show asksN 9 0 = 1 from rfl, lev1] at this
    have pb' : impOf l (sub l r) (i + TA.length + 1) = .ok b (i + TA.length + 1 + TB.length) := by have := pb r (by omega); rwa [show asksN 9 1 = 1 from rfl, lev1] at this
    have hw := whichOp_hit hO
    unfold termB
    rw [pa', Rs.then_ok, hw, if_neg (by decide), pb']
    rfl
  have cc : t.op = 10 ∨ t.op = 11 ∨ t.op = 12 ∨ t.op = 13 := by omega
  have e0 : asksN t.op 0 = 6 := by rcases cc with h | h | h | h <;> rw [h] <;> rfl
  have e1 : asksN t.op 1 = 6 := by rcases cc with h | h | h | h <;> rw [h] <;> rfl
  have er : ruleOf t.op = 5 := by rcases cc with h | h | h | h <;> rw [h] <;> rfl
  rw [e0] at pa
  rw [e1] at pb
  rw [er, hne]
  show lev l r 4 i = _
  rw [lev4]
  have pa' : sumB l ((sub l r).map Lvl.term) i = .ok a (i + TA.length) := pa r (by omega)
  have pb' : sumB l ((sub l r).map Lvl.term) (i + TA.length + 1) = .ok b (i + TA.length + 1 + TB.length) := pb r (by omega)
  have hw : whichOp l (i + TA.length) [10, 11, 12, 13] = t.op := whichOp_in hO hbm (by decide) (by rcases cc with h | h | h | h <;> rw [h] <;> decide)
  unfold notB
  rw [bang_sum pa', if_neg (by decide), pa', Rs.then_ok, hw, if_neg (by omega), pb']
  rfl

theorem pt_ok : ∀ (N : Nat) (t : Tm) (d : Nat), t.size ≤ N → t.okT d → toldT t = true → PT l t d
  | 0, t, d, hN, _, _ => by cases t; rw [Tm.size] at hN; omega
  | N + 1, t, d, hN, hok, htl => by
    have ih : ∀ k ∈ t.kids, PT l k (d + 1) := fun k hk => by
      have h1 := Tm.sizeL_mem hk
      have hks := (kids_count hok).1
      have h2 : t.op ≠ 3 ∧ t.op ≠ 4 := by
        refine ⟨fun h => ?_, fun h => ?_⟩
        · have := List.eq_nil_of_length_eq_zero (hks (by omega)); rw [this] at hk; cases hk
        · have := List.eq_nil_of_length_eq_zero (hks (by omega)); rw [this] at hk; cases hk
      refine pt_ok N k (d + 1) ?_ ((okT_open hok).2.2 k hk) (told_kids htl h2.1 h2.2 k hk)
      cases t with
      | mk o nn ss l => rw [Tm.size] at hN; simp only [Tm.kids] at h1; omega
    have hd := (okT_open hok).1
    have hB := body_ok hok htl ih
    have hr8 : ruleOf t.op ≤ 8 := by
      unfold ruleOf
      iterate 8 (split; · omega)
      omega
    have h8 : ∀ ends r i, 130 ≤ r + 2 * d → At l i (tkT t 8 ends) → (ends = true → Follow l (i + (tkT t 8 ends).length) 0) → lev l r 8 i = .ok t (i + (tkT t 8 ends).length) := by
      intro ends r i hr hat he
      rw [tkT_eq] at hat he ⊢
      cases hp : parens t 8 ends with
      | true =>
        rw [hp] at hat he
        simp only [wrapTk, if_true, Bool.true_or] at hat he ⊢
        obtain ⟨r', rfl, hsub⟩ := sub_pos (l := l) (r := r) (d := d) (by omega) hd
        obtain ⟨T, hT⟩ : ∃ T, T = bodyOf t true := ⟨_, rfl⟩
        rw [← hT] at hat he ⊢
        have hat1 : At l i (sg [40] :: (T ++ [sg [41]])) := by simpa using hat
        have hat2 := hat1.tail.left
        have hat3 : At l (i + 1 + T.length) [sg [41]] := hat1.tail.right
        have hcl : ∀ k, Follow l (i + 1 + T.length) k := fun k => follow_tk hat3 (by unfold closes; decide)
        have hb := hB true r' (i + 1) (by omega) (by rw [← hT]; exact hat2) (by rw [← hT]; exact hcl _) (fun _ => by rw [← hT]; exact hcl _) (fun _ => rfl)
        rw [← hT] at hb
        have h0 := lift' (Nat.zero_le _) hr8 hb (hcl 0)
        have h0' : (lvl l r').term (i + 1) = .ok t (i + 1 + T.length) := h0
        obtain ⟨u, hu, a1, a2, a3⟩ := hat1.head
        obtain ⟨v, hv, b1, b2, b3⟩ := hat3.head
        simp only [sg] at a1 a2 a3 b1 b2 b3
        show unitF l ((sub l (r' + 1)).map Lvl.term) i = _
        rw [hsub]
        have hlen : i + ([sg [40]] ++ T ++ [sg [41]]).length = i + 1 + T.length + 1 := by simp; omega
        rw [hlen]
        simp [unitF, isTk_at hu, isTk_at hv, a1, a3, b1, b3, inner, h0', wTrue, wFalse, wNext]
      | false =>
        rw [hp] at hat he
        simp only [wrapTk, Bool.false_or] at hat he ⊢
        have hp' := hp
        unfold parens at hp'
        simp at hp'
        have er : ruleOf t.op = 8 := by omega
        have hb := hB ends r i (by omega) hat (fun op h1 h2 h3 => by
          exfalso
          have : ∀ o ∈ binOps, ruleOf o < 8 := by decide
          have := this op (binOps_mem h1 h2)
          omega) he (fun h => hp'.2 h)
        rw [er] at hb
        exact hb
    have hsame : ∀ rule ends, rule ≤ 8 → parens t rule ends = true → tkT t rule ends = tkT t 8 ends := fun rule ends hr hp => by
      have h1 : parens t 8 ends = true := by
        unfold parens at hp ⊢
        simp at hp ⊢
        rcases hp with h | h
        · left; omega
        · exact .inr h
      rw [tkT_eq, tkT_eq, hp, h1]
    have hbody : ∀ rule ends, parens t rule ends = false → tkT t rule ends = bodyOf t ends ∧ rule ≤ ruleOf t.op ∧ (t.op = 18 → ends = true) := fun rule ends hp => by
      have hp' := hp
      unfold parens at hp'
      simp at hp'
      exact ⟨by rw [tkT_eq, hp]; rfl, by omega, hp'.2⟩
    have hA : ∀ rule ends r i, rule ≤ 8 → 130 ≤ r + 2 * d → At l i (tkT t rule ends) → Follow l (i + (tkT t rule ends).length) rule → (ends = true → Follow l (i + (tkT t rule ends).length) 0) → lev l r rule i = .ok t (i + (tkT t rule ends).length) := by
      intro rule ends r i hru hr hat hf he
      cases hp : parens t rule ends with
      | true =>
        rw [hsame rule ends hru hp] at hat hf he ⊢
        exact lift' hru (Nat.le_refl _) (h8 ends r i hr hat he) hf
      | false =>
        obtain ⟨e1, e2, e3⟩ := hbody rule ends hp
        rw [e1] at hat hf he ⊢
        exact lift' e2 hr8 (hB ends r i (by omega) hat (hf.mono e2) he e3) hf
    refine ⟨hA, ?_, ?_⟩
    · intro ends r i hr hat hf he
      cases hp : parens t 6 ends with
      | true =>
        rw [hsame 6 ends (by omega) hp] at hat hf he ⊢
        exact lft_zero (lift' (a := 7) (by omega) (Nat.le_refl _) (h8 ends r i hr hat he) hf)
      | false =>
        obtain ⟨e1, e2, e3⟩ := hbody 6 ends hp
        rw [e1] at hat hf he ⊢
        by_cases h6 : ruleOf t.op = 6
        · have ho : t.op = 14 ∨ t.op = 15 := by
            have hrg := op_range hok
            have : t.op = 1 ∨ t.op = 2 ∨ t.op = 3 ∨ t.op = 4 ∨ t.op = 5 ∨ t.op = 6 ∨ t.op = 7 ∨ t.op = 8 ∨ t.op = 9 ∨ t.op = 10 ∨ t.op = 11 ∨ t.op = 12 ∨ t.op = 13 ∨ t.op = 14 ∨ t.op = 15 ∨ t.op = 16 ∨ t.op = 17 ∨ t.op = 18 := by omega
            rcases this with h | h | h | h | h | h | h | h | h | h | h | h | h | h | h | h | h | h <;> rw [h] at h6 <;> first | (exact absurd h6 (by decide)) | omega
          exact body_l6 hok ho ih ends r i (by omega) hat hf he
        · exact lft_zero (lift' (a := 7) (by omega) hr8 (hB ends r i (by omega) hat (hf.mono (by omega)) he e3) hf)
    · intro ends r i hr hat he
      cases hp : parens t 7 ends with
      | true =>
        rw [hsame 7 ends (by omega) hp] at hat he ⊢
        exact lft_zero (h8 ends r i hr hat he)
      | false =>
        obtain ⟨e1, e2, e3⟩ := hbody 7 ends hp
        rw [e1] at hat he ⊢
        by_cases h7 : ruleOf t.op = 7
        · have ho : t.op = 16 ∨ t.op = 17 := by
            have hrg := op_range hok
            have : t.op = 1 ∨ t.op = 2 ∨ t.op = 3 ∨ t.op = 4 ∨ t.op = 5 ∨ t.op = 6 ∨ t.op = 7 ∨ t.op = 8 ∨ t.op = 9 ∨ t.op = 10 ∨ t.op = 11 ∨ t.op = 12 ∨ t.op = 13 ∨ t.op = 14 ∨ t.op = 15 ∨ t.op = 16 ∨ t.op = 17 ∨ t.op = 18 := by omega
            rcases this with h | h | h | h | h | h | h | h | h | h | h | h | h | h | h | h | h | h <;> rw [h] at h7 <;> first | (exact absurd h7 (by decide)) | omega
          exact body_l7 hok ho ih ends r i (by omega) hat he
        · have er : ruleOf t.op = 8 := by omega
          have hb := hB ends r i (by omega) hat (fun op h1 h2 h3 => by
            exfalso
            have : ∀ o ∈ binOps, ruleOf o < 8 := by decide
            have := this op (binOps_mem h1 h2)
            omega) he e3
          rw [er] at hb
          exact lft_zero hb
end
/-- The whole: the tokens of a shown term, and nothing behind them. -/
theorem take_show {t : Tm} (hc : t.check = 0) (htl : toldT t = true) {l : List Tok} (hat : At l 0 (tkT t 0 true)) (hl : l.length = (tkT t 0 true).length) : takeT l 0 = (t, l.length, 0) := by
  have hok := (check_ok hc).1
  have hp := (pt_ok (l := l) t.size t 1 (Nat.le_refl _) hok htl).a 0 true 256 0 (by omega) (by omega) hat (by rw [← hl]; exact follow_end (by omega)) (fun _ => by rw [← hl]; exact follow_end (by omega))
  have hp' : (lvl l 256).term 0 = .ok t (0 + (tkT t 0 true).length) := hp
  unfold takeT
  rw [hp', Nat.zero_add, ← hl]
  simp [hc]
end Go.Proofs.YtnbphgeepnknlaaDoor
