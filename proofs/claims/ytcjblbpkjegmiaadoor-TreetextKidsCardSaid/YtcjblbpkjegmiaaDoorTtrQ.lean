/- Plain words: different states have different lines. -/
import Derived.Test.YtcjblbpkjegmiaaDoorTtrB
namespace Go.Proofs.YtcjblbpkjegmiaaDoor
set_option linter.unusedVariables false

theorem decB_step {x : Nat} (h : 10 ≤ x) : decB x = decB (x / 10) ++ [UInt8.ofNat (48 + x % 10)] := by
  have hx : x ≠ 0 := by omega
  have hx2 : x / 10 ≠ 0 := by omega
  unfold decB
  rw [if_neg hx, if_neg hx2, digs_pos (by decide) hx, List.reverse_cons, List.map_append]
  rfl
theorem decB_one {x : Nat} (h : x < 10) : decB x = [UInt8.ofNat (48 + x)] := by
  have : x = 0 ∨ x = 1 ∨ x = 2 ∨ x = 3 ∨ x = 4 ∨ x = 5 ∨ x = 6 ∨ x = 7 ∨ x = 8 ∨ x = 9 := by omega
  rcases this with rfl | rfl | rfl | rfl | rfl | rfl | rfl | rfl | rfl | rfl <;> rfl
theorem dig_toNat (d : Nat) (h : d < 10) : (UInt8.ofNat (48 + d)).toNat = 48 + d := by
  rw [UInt8.toNat_ofNat']
  exact Nat.mod_eq_of_lt (by omega)
theorem valOf_decB : ∀ (n x : Nat), x ≤ n → valOf (decB x) = x
  | 0, x, h => by
    have : x = 0 := by omega
    subst this; rfl
  | n + 1, x, h => by
    by_cases hx : x < 10
    · rw [decB_one hx]
      unfold valOf
      simp only [List.foldl_cons, List.foldl_nil]
      rw [dig_toNat x hx]
      omega
    · rw [decB_step (by omega), valOf_snoc, valOf_decB n (x / 10) (by omega), dig_toNat _ (by omega)]
      omega
theorem decB_digits : ∀ (n x : Nat), x ≤ n → ∀ c ∈ decB x, 48 ≤ c.toNat ∧ c.toNat ≤ 57
  | 0, x, h => by
    have : x = 0 := by omega
    subst this
    decide
  | n + 1, x, h => by
    by_cases hx : x < 10
    · rw [decB_one hx]
      intro c hc
      rw [List.mem_singleton.1 hc]
      rw [dig_toNat x hx]
      omega
    · rw [decB_step (by omega)]
      intro c hc
      rcases List.mem_append.1 hc with hc | hc
      · exact decB_digits n (x / 10) (by omega) c hc
      · rw [List.mem_singleton.1 hc]
        rw [dig_toNat _ (by omega)]
        omega
theorem decB_inj {x y : Nat} (h : decB x = decB y) : x = y := by rw [← valOf_decB x x (Nat.le_refl _), ← valOf_decB y y (Nat.le_refl _), h]
theorem numS_bytes (n : Int) : ∀ c ∈ numS n, c.toNat = 45 ∨ (48 ≤ c.toNat ∧ c.toNat ≤ 57) := by
  intro c hc
  unfold numS at hc
  split at hc
  · rcases List.mem_cons.1 hc with rfl | hc
    · left; rfl
    · right; exact decB_digits _ _ (Nat.le_refl _) c hc
  · right; exact decB_digits _ _ (Nat.le_refl _) c hc
theorem decB_ne_minus {x : Nat} {l : Bs} : decB x ≠ 45 :: l := fun h => by
  have := decB_digits x x (Nat.le_refl _) 45 (by rw [h]; simp)
  revert this
  decide
theorem numS_inj {x y : Int} (h : numS x = numS y) : x = y := by
  unfold numS at h
  by_cases hx : x < 0
  · by_cases hy : y < 0
    · rw [if_pos hx, if_pos hy] at h
      injection h with _ h
      have := decB_inj h
      omega
    · rw [if_pos hx, if_neg hy] at h
      exact absurd h.symm decB_ne_minus
  · by_cases hy : y < 0
    · rw [if_neg hx, if_pos hy] at h
      exact absurd h decB_ne_minus
    · rw [if_neg hx, if_neg hy] at h
      have := decB_inj h
      omega
/-- Without a blank. -/
def NoSp (x : Bs) : Prop := ∀ c ∈ x, c ≠ 32
theorem split_sp : ∀ {x y p q : Bs}, NoSp x → NoSp y → (p = [] ∨ ∃ r, p = 32 :: r) → (q = [] ∨ ∃ r, q = 32 :: r) → x ++ p = y ++ q → x = y ∧ p = q
  | [], [], p, q, _, _, _, _, h => ⟨rfl, h⟩
  | [], d :: y, p, q, _, hy, hp, _, h => by
    rcases hp with rfl | ⟨r, rfl⟩
    · cases h
    · injection h with h _
      exact absurd h.symm (hy d (by simp))
  | c :: x, [], p, q, hx, _, _, hq, h => by
    rcases hq with rfl | ⟨r, rfl⟩
    · cases h
    · injection h with h _
      exact absurd h (hx c (by simp))
  | c :: x, d :: y, p, q, hx, hy, hp, hq, h => by
    injection h with h1 h2
    obtain ⟨a, b⟩ := split_sp (fun z hz => hx z (by simp [hz])) (fun z hz => hy z (by simp [hz])) hp hq h2
    exact ⟨by rw [h1, a], b⟩
theorem joinTail_form (r : List Bs) : Lib.joinTail [32] r = [] ∨ ∃ z, Lib.joinTail [32] r = 32 :: z := by
  cases r with
  | nil => exact .inl rfl
  | cons y s => exact .inr ⟨_, rfl⟩
theorem joinTail_inj : ∀ {r s : List Bs}, r.length = s.length → (∀ x ∈ r, NoSp x) → (∀ x ∈ s, NoSp x) → Lib.joinTail [32] r = Lib.joinTail [32] s → r = s
  | [], [], _, _, _, _ => rfl
  | x :: r, y :: s, hl, hr, hs, h => by
    have h' : [32] ++ x ++ Lib.joinTail [32] r = [32] ++ y ++ Lib.joinTail [32] s := h
    rw [List.append_assoc, List.append_assoc] at h'
    injection h' with _ h'
    obtain ⟨a, b⟩ := split_sp (hr x (by simp)) (hs y (by simp)) (joinTail_form r) (joinTail_form s) h'
    rw [a, joinTail_inj (by simpa using hl) (fun z hz => hr z (by simp [hz])) (fun z hz => hs z (by simp [hz])) b]
theorem join_inj {r s : List Bs} (hl : r.length = s.length) (hr : ∀ x ∈ r, NoSp x) (hs : ∀ x ∈ s, NoSp x) (h : Lib.join r [32] = Lib.join s [32]) : r = s := by
  cases r with
  | nil =>
    cases s with
    | nil => rfl
    | cons _ _ => simp at hl
  | cons x r =>
    cases s with
    | nil => simp at hl
    | cons y s =>
      rw [Lib.join_cons, Lib.join_cons] at h
      obtain ⟨a, b⟩ := split_sp (hr x (by simp)) (hs y (by simp)) (joinTail_form r) (joinTail_form s) h
      rw [a, joinTail_inj (by simpa using hl) (fun z hz => hr z (by simp [hz])) (fun z hz => hs z (by simp [hz])) b]
theorem inside_bytes {c : UInt8} (h : isInside c = true) : c ≠ 32 ∧ c ≠ 61 ∧ c ≠ 10 := by
  refine ⟨fun e => ?_, fun e => ?_, fun e => ?_⟩ <;> (subst e; revert h; decide)
theorem isName_inside {x : Bs} (h : isName x = true) : ∀ c ∈ x, isInside c = true := by
  unfold isName at h
  simp at h
  obtain ⟨⟨⟨⟨h1, h2⟩, h3⟩, h4⟩, h5⟩ := h
  intro d hd
  have := rowLen_all (p := isInside) (l := x) d
  rw [h4] at this
  exact this (by simpa using hd)
theorem wordS_noSp {v : Vr} {z : Int} (h : isName v.name.data.toList = true) : NoSp (wordS v z) := by
  intro c hc
  unfold wordS at hc
  rcases List.mem_append.1 hc with hc | hc
  · rcases List.mem_append.1 hc with hc | hc
    · exact (inside_bytes (isName_inside h c hc)).1
    · simp at hc; subst hc; decide
  · intro e
    subst e
    have := numS_bytes z 32 hc
    revert this
    decide
theorem words_noSp : ∀ {vs : List Vr} {s : List Int}, (∀ v ∈ vs, isName v.name.data.toList = true) → ∀ x ∈ wordsS vs s, NoSp x := by
  intro vs s h x hx
  unfold wordsS at hx
  rw [List.mem_iff_getElem?] at hx
  obtain ⟨i, hi⟩ := hx
  rw [List.getElem?_zipWith] at hi
  cases hv' : vs[i]? with
  | none => rw [hv'] at hi; simp at hi
  | some v =>
    cases hz' : s[i]? with
    | none => rw [hv', hz'] at hi; simp at hi
    | some z =>
      rw [hv', hz'] at hi
      simp at hi
      subst hi
      exact wordS_noSp (h v (List.mem_of_getElem? hv'))
theorem words_inj : ∀ {vs : List Vr} {a b : List Int}, a.length = vs.length → b.length = vs.length → wordsS vs a = wordsS vs b → a = b
  | [], [], [], _, _, _ => rfl
  | v :: vs, x :: a, y :: b, ha, hb, h => by
    have h' : wordS v x :: wordsS vs a = wordS v y :: wordsS vs b := h
    injection h' with h1 h2
    unfold wordS at h1
    have h3 := List.append_cancel_left h1
    rw [numS_inj h3, words_inj (by simpa using ha) (by simpa using hb) h2]
/-- The law: the lines are the same exactly if the states are. -/
theorem state_apart {vs : List Vr} {a b : List Int} (hn : ∀ v ∈ vs, isName v.name.data.toList = true) (ha : a.length = vs.length) (hb : b.length = vs.length) (h : (stateT vs a).1 = (stateT vs b).1) : a = b := by
  unfold stateT at h
  rw [if_neg (by omega), if_neg (by omega)] at h
  refine words_inj ha hb (join_inj ?_ (words_noSp hn) (words_noSp hn) h)
  rw [words_len vs a ha, words_len vs b hb]
end Go.Proofs.YtcjblbpkjegmiaaDoor
