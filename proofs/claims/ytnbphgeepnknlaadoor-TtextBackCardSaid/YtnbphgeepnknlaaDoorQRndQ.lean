/- Plain words: the parser gives back the term whose tokens it reads. -/
import Derived.Test.YtnbphgeepnknlaaDoorQRndP
namespace Go.Proofs.YtnbphgeepnknlaaDoor
set_option linter.unusedVariables false
set_option linter.unusedSectionVars false

/-- The parser of a rule. -/
def lev (l : List Tok) (r k : Nat) : Par := match k with
  | 0 => (lvl l r).term
  | 1 => (lvl l r).imp
  | 2 => orOf l (sub l r)
  | 3 => andOf l (sub l r)
  | 4 => (lvl l r).not
  | 5 => (lvl l r).not
  | 6 => sumB l ((sub l r).map Lvl.term)
  | 7 => prodB l ((sub l r).map Lvl.term)
  | _ => unitF l ((sub l r).map Lvl.term)
section
variable {l : List Tok}
theorem lev0 (r : Nat) : lev l r 0 = termB l (impOf l (sub l r)) := by show (lvl l r).term = _; rw [lvl_eq]; rfl
theorem lev1 (r : Nat) : lev l r 1 = impB l ((sub l r).map Lvl.imp) (orOf l (sub l r)) := by show (lvl l r).imp = _; rw [lvl_eq]; rfl
theorem lev4 (r : Nat) : lev l r 4 = notB l ((sub l r).map Lvl.not) (sumB l ((sub l r).map Lvl.term)) := by show (lvl l r).not = _; rw [lvl_eq]; rfl
theorem leftL_stop {one : Par} {ops : List Int} {t : Tm} {j : Nat} (h : whichOp l j ops = 0) (K : Nat) : leftL l one ops K t j = .ok t j := by cases K <;> simp [leftL, h]
theorem manyF_stop {one : Par} {op : Int} {acc : List Tm} {j : Nat} (h : whichOp l j [op] = 0) (K : Nat) : manyF l op one K acc j = .ok (manyEnd op acc) j := by cases K <;> simp [manyF, h]
theorem follow_list {j k : Nat} (hf : Follow l j k) {ops : List Int} (h : ∀ op ∈ ops, 6 ≤ op ∧ op ≤ 17 ∧ k ≤ ruleOf op) : whichOp l j ops = 0 :=
  whichOp_none fun op ho => ⟨hf op (h op ho).1 (h op ho).2.1 (h op ho).2.2, by have := (h op ho).1; omega⟩
theorem bang_unit {i : Nat} {s : Option Par} (h : isTk l i 4 [33] = true) : unitF l s i = .bad i 16 := by
  cases hu : l[i]? with
  | none => simp [isTk, hu] at h
  | some u =>
    rw [isTk_at hu] at h
    simp at h
    simp [unitF, isTk_at hu, isKd_at hu, h.1, h.2]
theorem bang_sum {i j : Nat} {s : Option Par} {t : Tm} (h : sumB l s i = .ok t j) : isTk l i 4 [33] = false := by
  cases hb : isTk l i 4 [33] with
  | false => rfl
  | true =>
    have h1 := bang_unit (s := s) hb
    unfold sumB left prodB left at h
    rw [h1] at h
    cases h
theorem lift_step {r i j k : Nat} {t : Tm} (hk : k < 8) (h : lev l r (k + 1) i = .ok t j) (hf : Follow l j k) : lev l r k i = .ok t j := by
  have hk' : k = 0 ∨ k = 1 ∨ k = 2 ∨ k = 3 ∨ k = 4 ∨ k = 5 ∨ k = 6 ∨ k = 7 := by omega
  rcases hk' with rfl | rfl | rfl | rfl | rfl | rfl | rfl | rfl
  · rw [lev1] at h
    rw [lev0]
    unfold termB impOf
    rw [h, Rs.then_ok, follow_list hf (ops := [9]) (by decide), if_pos rfl]
  · rw [lev1]
    have h' : orOf l (sub l r) i = .ok t j := h
    unfold impB
    rw [h', Rs.then_ok, follow_list hf (ops := [8]) (by decide), if_pos rfl]
  · have h' : andOf l (sub l r) i = .ok t j := h
    show orOf l (sub l r) i = _
    unfold orOf many
    rw [h', Rs.then_ok, manyF_stop (follow_list hf (ops := [7]) (by decide))]
    rfl
  · rw [lev4] at h
    show andOf l (sub l r) i = _
    unfold andOf notOf many
    rw [h, Rs.then_ok, manyF_stop (follow_list hf (ops := [6]) (by decide))]
    rfl
  · exact h
  · have h' : sumB l ((sub l r).map Lvl.term) i = .ok t j := h
    show lev l r 4 i = _
    rw [lev4]
    unfold notB
    rw [bang_sum h', if_neg (by decide), h', Rs.then_ok, follow_list hf (ops := [10, 11, 12, 13]) (by decide), if_pos rfl]
  · have h' : prodB l ((sub l r).map Lvl.term) i = .ok t j := h
    show sumB l ((sub l r).map Lvl.term) i = _
    unfold sumB left
    rw [h', Rs.then_ok, leftL_stop (follow_list hf (ops := [14, 15]) (by decide))]
  · have h' : unitF l ((sub l r).map Lvl.term) i = .ok t j := h
    show prodB l ((sub l r).map Lvl.term) i = _
    unfold prodB left
    rw [h', Rs.then_ok, leftL_stop (follow_list hf (ops := [16, 17]) (by decide))]
theorem lift {r i j a : Nat} {t : Tm} : ∀ (m : Nat), a + m ≤ 8 → lev l r (a + m) i = .ok t j → Follow l j a → lev l r a i = .ok t j
  | 0, _, h, _ => h
  | m + 1, hm, h, hf => lift m (by omega) (lift_step (k := a + m) (by omega) h (hf.mono (by omega))) hf
theorem lift' {r i j a b : Nat} {t : Tm} (hab : a ≤ b) (hb : b ≤ 8) (h : lev l r b i = .ok t j) (hf : Follow l j a) : lev l r a i = .ok t j := by
  obtain ⟨m, rfl⟩ : ∃ m, b = a + m := ⟨b - a, by omega⟩
  exact lift m hb h hf

def Lft (l : List Tok) (one : Par) (ops : List Int) (i : Nat) (t : Tm) (j : Nat) : Prop := ∃ n, n ≤ j - i ∧ ∀ K, n ≤ K → (one i).then (fun u m => leftL l one ops K u m) = leftL l one ops (K - n) t j
theorem lft_zero {one : Par} {ops : List Int} {i j : Nat} {t : Tm} (h : one i = .ok t j) : Lft l one ops i t j := ⟨0, Nat.zero_le _, fun K _ => by rw [h]; rfl⟩
theorem lft_end {one : Par} {ops : List Int} {i : Nat} {t : Tm} {ts : List Tok} (h : Lft l one ops i t (i + ts.length)) (hat : At l i ts) (hf : whichOp l (i + ts.length) ops = 0) : left l one ops i = .ok t (i + ts.length) := by
  obtain ⟨n, hn, hK⟩ := h
  have hl : n ≤ l.length := by
    by_cases h0 : ts = []
    · subst h0; simp at hn; omega
    · have := hat.le h0; omega
  have := hK l.length hl
  unfold left
  rw [this, leftL_stop hf]
theorem lft_step {one : Par} {ops : List Int} {i : Nat} {a b : Tm} {A B : List Tok} {op : Int} (hat : At l i (A ++ ([opTk op] ++ B))) (hop : op ∈ binOps) (hops : ∀ o ∈ ops, o ∈ binOps) (hin : op ∈ ops)
    (ha : Lft l one ops i a (i + A.length)) (hb : one (i + A.length + 1) = .ok b (i + A.length + 1 + B.length)) : Lft l one ops i (tmOf op [a, b]) (i + (A ++ ([opTk op] ++ B)).length) := by
  obtain ⟨n, hn, hK⟩ := ha
  have h1 := hat.right
  have hw : whichOp l (i + A.length) ops = op := whichOp_in h1 hop hops hin
  have h0 : op ≠ 0 := fun e => by rw [e] at hop; exact absurd hop (by decide)
  refine ⟨n + 1, by simp; omega, fun K hk => ?_⟩
  rw [hK K (by omega)]
  obtain ⟨m, hm⟩ : ∃ m, K - n = m + 1 := ⟨K - n - 1, by omega⟩
  rw [hm, leftL, hw, if_neg h0, hb, Rs.then_ok, show K - (n + 1) = m from by omega]
  congr 1
  simp
  omega
end

/-- What the parser makes of a term's tokens. -/
structure PT (l : List Tok) (t : Tm) (d : Nat) : Prop where
  a : ∀ rule ends r i, rule ≤ 8 → 130 ≤ r + 2 * d → At l i (tkT t rule ends) → Follow l (i + (tkT t rule ends).length) rule → (ends = true → Follow l (i + (tkT t rule ends).length) 0) → lev l r rule i = .ok t (i + (tkT t rule ends).length)
  b6 : ∀ ends r i, 130 ≤ r + 2 * d → At l i (tkT t 6 ends) → Follow l (i + (tkT t 6 ends).length) 7 → (ends = true → Follow l (i + (tkT t 6 ends).length) 0) → Lft l (prodB l ((sub l r).map Lvl.term)) [14, 15] i t (i + (tkT t 6 ends).length)
  b7 : ∀ ends r i, 130 ≤ r + 2 * d → At l i (tkT t 7 ends) → (ends = true → Follow l (i + (tkT t 7 ends).length) 0) → Lft l (unitF l ((sub l r).map Lvl.term)) [16, 17] i t (i + (tkT t 7 ends).length)

theorem told_kids {t : Tm} (h : toldT t = true) (h3 : t.op ≠ 3) (h4 : t.op ≠ 4) : ∀ k ∈ t.kids, toldT k = true := by
  rw [toldT_eq] at h
  split at h
  · cases h
  · rw [if_neg (by omega)] at h
    have key : ∀ l : List Tm, toldL l = true → ∀ k ∈ l, toldT k = true := by
      intro l
      induction l with
      | nil => intro _ k hk; cases hk
      | cons x r ih =>
        intro hl k hk
        rw [toldL] at hl
        simp at hl
        rcases List.mem_cons.1 hk with rfl | hk
        · exact hl.1
        · exact ih hl.2 k hk
    exact key _ h
theorem name_nil {s : ByteArray} (h : s.size = 0) : s = nomk := by
  have : s.data.toList.length = 0 := by simpa using h
  have := List.eq_nil_of_length_eq_zero this
  exact bs_ext this
theorem tkJoin2 (op : Int) (a b : Tm) (ends : Bool) : tkJoin op [a, b] 0 ends = tkT a (asksN op 0) false ++ ([opTk op] ++ tkT b (asksN op 1) ends) := by
  simp [tkJoin]
section
variable {l : List Tok}
theorem lone_ok {op n : Int} {s : ByteArray} {d : Nat} (hok : (Tm.mk op n s []).okT d) (ho : op = 1 ∨ op = 2 ∨ op = 3 ∨ op = 4) (sb : Option Par) (i : Nat) (hat : At l i (loneTk op n s.data.toList)) : unitF l sb i = .ok (.mk op n s []) (i + (loneTk op n s.data.toList).length) := by
  have hw := wrong_ok (okT_open hok).2.1
  simp only [Tm.op, Tm.num, Tm.name, Tm.kids] at hw
  obtain ⟨-, w1, -, -, -, w2, w3, -, w4⟩ := hw
  have hs : (⟨s.data.toList.toArray⟩ : ByteArray) = s := bs_ext rfl
  rcases ho with rfl | rfl | rfl | rfl
  · have hnm := name_nil (w4 (by decide))
    subst hnm
    by_cases hn : n < 0
    · simp only [loneTk, if_true, if_pos hn] at hat ⊢
      obtain ⟨u, hu, a1, a2, a3⟩ := hat.head
      obtain ⟨v, hv, b1, b2, b3⟩ := hat.tail.head
      simp only [sg, nuTk] at a1 a2 a3 b1 b2 b3
      have e1 := isTk_at hu 4 [45]
      rw [a1, a3] at e1
      have e2 := isKd_at hv 1
      rw [b1] at e2
      unfold unitF
      rw [e1, e2, numAt_at hv, b2]
      simp [tmNum]
    · simp only [loneTk, if_true, if_neg hn] at hat ⊢
      obtain ⟨u, hu, a1, a2, a3⟩ := hat.head
      simp only [nuTk] at a1 a2 a3
      simp [unitF, isTk_at hu, isKd_at hu, numAt_at hu, a1, a2, tmNum]
  · have hnm := name_nil (w4 (by decide))
    subst hnm
    have hn := w2 rfl
    by_cases h1 : n = 1
    · subst h1
      simp only [loneTk, if_true] at hat ⊢
      obtain ⟨u, hu, a1, a2, a3⟩ := hat.head
      simp only [wd] at a1 a2 a3
      simp [unitF, isTk_at hu, a1, a3, tmBool]
    · have h0 : n = 0 := by omega
      subst h0
      simp only [loneTk, if_true] at hat ⊢
      obtain ⟨u, hu, a1, a2, a3⟩ := hat.head
      simp only [wd] at a1 a2 a3
      simp [unitF, isTk_at hu, a1, a3, tmBool, wTrue, wFalse]
  · have h0 : n = 0 := w3 (by decide) (by decide)
    subst h0
    simp only [loneTk] at hat ⊢
    obtain ⟨u, hu, a1, a2, a3⟩ := At.head (t := nmTk s.data.toList) (b := []) hat
    simp only [nmTk] at a1 a2 a3
    simp [unitF, isTk_at hu, isKd_at hu, textAt_at hu, a1, a3, tmName]
  · have h0 : n = 0 := w3 (by decide) (by decide)
    subst h0
    have hat' : At l i [wd wNext, sg [40], nmTk s.data.toList, sg [41]] := hat
    obtain ⟨u, hu, a1, a2, a3⟩ := hat'.head
    obtain ⟨v, hv, b1, b2, b3⟩ := hat'.tail.head
    obtain ⟨x, hx, c1, c2, c3⟩ := hat'.tail.tail.head
    obtain ⟨y, hy, d1, d2, d3⟩ := hat'.tail.tail.tail.head
    simp only [wd, sg, nmTk] at a1 a2 a3 b1 b2 b3 c1 c2 c3 d1 d2 d3
    rw [show i + 1 + 1 = i + 2 from rfl] at hx hy
    rw [show i + 2 + 1 = i + 3 from rfl] at hy
    simp [unitF, isTk_at hu, isTk_at hv, isKd_at hx, isTk_at hy, textAt_at hx, a1, a3, b1, b3, c1, c3, d1, d3, tmName, loneTk, wNext, wTrue, wFalse]

theorem many_ok {op : Int} (hop : op = 6 ∨ op = 7) {d r : Nat} {ends : Bool} {one : Par} (hone : one = lev l r (asksN op 0)) (hr : 130 ≤ r + 2 * (d + 1)) : ∀ (ks : List Tm) (acc : List Tm) (j n K : Nat), acc ≠ [] → 0 < n → (∀ k ∈ ks, PT l k (d + 1)) → At l j (tkJoin op ks n ends) →
    Follow l (j + (tkJoin op ks n ends).length) (ruleOf op) → (ends = true → Follow l (j + (tkJoin op ks n ends).length) 0) → ks.length ≤ K → manyF l op one K acc j = .ok (manyEnd op (acc ++ ks)) (j + (tkJoin op ks n ends).length)
  | [], acc, j, n, K, _, _, _, _, hf, _, _ => by
    rw [tkJoin] at hf ⊢
    have h1 : whichOp l j [op] = 0 := hf op (by omega) (by omega) (Nat.le_refl _)
    rw [manyF_stop h1, List.append_nil]; rfl
  | k :: ks, acc, j, n, 0, _, _, _, _, _, _, hK => by simp at hK
  | k :: ks, acc, j, n, K + 1, hacc, hn, hks, hat, hf, he, hK => by
    have hask : ∀ m, asksN op m = asksN op 0 := fun m => by rcases hop with rfl | rfl <;> rfl
    have hask8 : asksN op 0 ≤ 8 := by rcases hop with rfl | rfl <;> decide
    have hlt : ruleOf op < asksN op 0 := by rcases hop with rfl | rfl <;> decide
    have htk : tkJoin op (k :: ks) n ends = opTk op :: (tkT k (asksN op 0) (ends && ks.isEmpty) ++ tkJoin op ks (n + 1) ends) := by
      rw [tkJoin, if_neg (by omega), hask n]; simp
    rw [htk] at hat hf he ⊢
    obtain ⟨T, hT⟩ : ∃ T, T = tkT k (asksN op 0) (ends && ks.isEmpty) := ⟨_, rfl⟩
    obtain ⟨R, hR⟩ : ∃ R, R = tkJoin op ks (n + 1) ends := ⟨_, rfl⟩
    rw [← hT, ← hR] at hat hf he ⊢
    have hlen : j + (opTk op :: (T ++ R)).length = j + 1 + T.length + R.length := by simp; omega
    rw [hlen] at hf he ⊢
    have hw : whichOp l j [op] = op := whichOp_hit hat
    have h0 : op ≠ 0 := by omega
    have hatT : At l (j + 1) T := hat.tail.left
    have hatR : At l (j + 1 + T.length) R := hat.tail.right
    have hfT : Follow l (j + 1 + T.length) (asksN op 0) := by
      cases ks with
      | nil => rw [tkJoin] at hR; subst hR; exact hf.mono (by omega)
      | cons k' ks' =>
        rw [tkJoin, if_neg (by omega)] at hR
        subst hR
        exact follow_op (b := tkT k' (asksN op (n + 1)) (ends && ks'.isEmpty) ++ tkJoin op ks' (n + 1 + 1) ends) (by simpa using hatR) (by omega) (by omega) hlt
    have heT : (ends && ks.isEmpty) = true → Follow l (j + 1 + T.length) 0 := fun h => by
      simp at h
      obtain ⟨h1, h2⟩ := h
      subst h2
      rw [tkJoin] at hR
      subst hR
      exact he h1
    have hk := (hks k (by simp)).a (asksN op 0) (ends && ks.isEmpty) r (j + 1) hask8 hr (by rw [← hT]; exact hatT) (by rw [← hT]; exact hfT) (by rw [← hT]; exact heT)
    rw [← hT] at hk
    have ih := many_ok hop hone hr ks (acc ++ [k]) (j + 1 + T.length) (n + 1) K (by simp) (by omega) (fun x hx => hks x (by simp [hx])) (by rw [← hR]; exact hatR) (by rw [← hR]; exact hf) (by rw [← hR]; exact he) (by simpa using hK)
    rw [← hR] at ih
    rw [manyF, hw, if_neg h0, hone, hk, Rs.then_ok, ← hone, ih]
    simp
end
end Go.Proofs.YtnbphgeepnknlaaDoor
