/- Plain words: numbers as lists of digits. -/
import Derived.Test.YtnbphgeepnknlaaGreatDoorRows
namespace Go.Proofs.YtnbphgeepnknlaaGreatDoor
set_option linter.unusedVariables false

/-- The value of digits, the least significant first. -/
def val (b : Nat) : List Nat → Nat
 | [] => 0
 | d :: r => d + b * val b r
def digsF : Nat → Nat → Nat → List Nat
 | 0, _, _ => []
 | f + 1, b, n => if n = 0 then [] else n % b :: digsF f b (n / b)
/-- The digits of a number, without leading zeros. -/
def digs (b n : Nat) : List Nat := digsF n b n

theorem digsF_enough {b : Nat} (hb : 2 ≤ b) : ∀ (f g n : Nat), n ≤ f → n ≤ g → digsF f b n = digsF g b n
 | 0, g, n, h1, h2 => by
  have : n = 0 := by omega
  subst this
  cases g <;> rfl
 | f + 1, 0, n, h1, h2 => by
  have : n = 0 := by omega
  subst this
  rfl
 | f + 1, g + 1, n, h1, h2 => by
  unfold digsF
  split
  · rfl
  · rename_i hn
    have hlt : n / b < n := Nat.div_lt_self (by omega) (by omega)
    rw [digsF_enough hb f g (n / b) (by omega) (by omega)]
theorem digs_zero (b : Nat) : digs b 0 = [] := rfl
theorem digs_pos {b n : Nat} (hb : 2 ≤ b) (hn : n ≠ 0) : digs b n = n % b :: digs b (n / b) := by
 obtain ⟨m, rfl⟩ : ∃ m, n = m + 1 := ⟨n - 1, by omega⟩
 have hlt : (m + 1) / b < m + 1 := Nat.div_lt_self (by omega) (by omega)
 show digsF (m + 1) b (m + 1) = _
 rw [digsF, if_neg (by omega), digsF_enough hb m ((m + 1) / b) _ (by omega) (Nat.le_refl _)]
 rfl
theorem val_digs {b : Nat} (hb : 2 ≤ b) : ∀ n, val b (digs b n) = n := by
 intro n
 induction n using Nat.strongRecOn with
 | _ n ih =>
  by_cases hn : n = 0
  · subst hn; rfl
  · rw [digs_pos hb hn, val, ih _ (Nat.div_lt_self (by omega) (by omega))]
    exact Nat.mod_add_div n b
theorem digs_lt {b : Nat} (hb : 2 ≤ b) : ∀ n, ∀ d ∈ digs b n, d < b := by
 intro n
 induction n using Nat.strongRecOn with
 | _ n ih =>
  intro d hd
  by_cases hn : n = 0
  · subst hn; cases hd
  · rw [digs_pos hb hn] at hd
    rcases List.mem_cons.1 hd with rfl | hd
    · exact Nat.mod_lt _ (by omega)
    · exact ih _ (Nat.div_lt_self (by omega) (by omega)) d hd

/-- Normalized: no leading zero. -/
def Norm (l : List Nat) : Prop := ∀ h : l ≠ [], l.getLast h ≠ 0
theorem norm_nil : Norm [] := fun h => absurd rfl h
theorem norm_cons {d : Nat} {r : List Nat} (h : Norm r) (hd : r = [] → d ≠ 0) : Norm (d :: r) := by
 intro _
 cases r with
 | nil => simpa using hd rfl
 | cons e r => rw [List.getLast_cons (by simp)]; exact h (by simp)
theorem norm_tail {d : Nat} {r : List Nat} (h : Norm (d :: r)) : Norm r := by
 intro hr
 have := h (by simp)
 rwa [List.getLast_cons hr] at this
theorem norm_digs {b : Nat} (hb : 2 ≤ b) : ∀ n, Norm (digs b n) := by
 intro n
 induction n using Nat.strongRecOn with
 | _ n ih =>
  by_cases hn : n = 0
  · subst hn; exact norm_nil
  · rw [digs_pos hb hn]
    refine norm_cons (ih _ (Nat.div_lt_self (by omega) (by omega))) fun h => ?_
    have h0 : n / b = 0 := by
     have := val_digs hb (n / b)
     rw [h] at this
     exact this.symm
    have := Nat.mod_add_div n b
    rw [h0] at this
    omega
theorem val_pos_of_norm {b : Nat} (hb : 2 ≤ b) : ∀ {l : List Nat}, Norm l → l ≠ [] → 0 < val b l
 | [], _, h => absurd rfl h
 | [d], h, _ => by have := h (by simp); simp at this; simp [val]; omega
 | d :: e :: r, h, _ => by
  have := val_pos_of_norm hb (norm_tail h) (by simp)
  rw [val]
  have : 1 * 1 ≤ b * val b (e :: r) := Nat.mul_le_mul (by omega) this
  omega
theorem digs_val {b : Nat} (hb : 2 ≤ b) : ∀ {l : List Nat}, Norm l → (∀ d ∈ l, d < b) → digs b (val b l) = l
 | [], _, _ => rfl
 | d :: r, h, hd => by
  have hpos := val_pos_of_norm hb h (by simp)
  have hdb := hd d (List.mem_cons_self ..)
  rw [digs_pos hb (by omega), val, Nat.add_mul_mod_self_left, Nat.mod_eq_of_lt hdb, Nat.add_mul_div_left _ _ (by omega), Nat.div_eq_of_lt hdb, Nat.zero_add,
   digs_val hb (norm_tail h) (fun e he => hd e (List.mem_cons_of_mem _ he))]
theorem val_append (b : Nat) : ∀ (l m : List Nat), val b (l ++ m) = val b l + b ^ l.length * val b m
 | [], m => by simp [val]
 | d :: r, m => by
  simp only [List.cons_append, val, val_append b r m, List.length_cons, Nat.pow_succ]
  rw [Nat.mul_add, ← Nat.add_assoc]
  congr 1
  rw [← Nat.mul_assoc]
  congr 1
  exact Nat.mul_comm _ _
theorem val_snoc (b : Nat) (l : List Nat) (d : Nat) : val b (l ++ [d]) = val b l + b ^ l.length * d := by
 rw [val_append]
 simp [val]
theorem val_lt {b : Nat} (hb : 2 ≤ b) : ∀ {l : List Nat}, (∀ d ∈ l, d < b) → val b l < b ^ l.length
 | [], _ => by simp [val]
 | d :: r, h => by
  have h1 := val_lt hb (fun e he => h e (List.mem_cons_of_mem d he))
  have h2 := h d (List.mem_cons_self ..)
  simp only [val, List.length_cons, Nat.pow_succ]
  have h3 : b * val b r + b ≤ b * b ^ r.length := by
   rw [← Nat.mul_succ]
   exact Nat.mul_le_mul_left _ h1
  rw [Nat.mul_comm (b ^ r.length) b]
  omega
theorem digs_len {b : Nat} (hb : 2 ≤ b) : ∀ (m n : Nat), n < b ^ m → (digs b n).length ≤ m
 | 0, n, h => by
  have : n = 0 := by simpa using h
  subst this
  exact Nat.le_refl _
 | m + 1, n, h => by
  by_cases hn : n = 0
  · subst hn; exact Nat.zero_le _
  · rw [digs_pos hb hn, List.length_cons]
    have := digs_len hb m (n / b) (by rw [Nat.div_lt_iff_lt_mul (by omega)]; rw [Nat.pow_succ] at h; exact h)
    omega
theorem lt_digs_len {b : Nat} (hb : 2 ≤ b) (n : Nat) : n < b ^ (digs b n).length := by
 have := val_lt hb (digs_lt hb n)
 rwa [val_digs hb] at this
theorem digs_len_mono {b : Nat} (hb : 2 ≤ b) {m n : Nat} (h : m ≤ n) : (digs b m).length ≤ (digs b n).length :=
 digs_len hb _ _ (Nat.lt_of_le_of_lt h (lt_digs_len hb n))
theorem len_le_digs {b : Nat} (hb : 2 ≤ b) {m n : Nat} (h : (digs b m).length < (digs b n).length) : m < n := by
 rcases Nat.lt_or_ge m n with h1 | h1
 · exact h1
 · have := digs_len_mono hb h1
   omega
theorem val_split (b : Nat) (l : List Nat) (i : Nat) (hi : i ≤ l.length) : val b l = val b (l.take i) + b ^ i * val b (l.drop i) := by
 have := val_append b (l.take i) (l.drop i)
 rw [List.take_append_drop, List.length_take, Nat.min_eq_left hi] at this
 exact this
theorem val_take_le (b : Nat) (l : List Nat) (i : Nat) : val b (l.take i) ≤ val b l := by
 rcases Nat.le_total i l.length with h | h
 · rw [val_split b l i h]; omega
 · rw [List.take_of_length_le h]; exact Nat.le_refl _

/-- The top digits alike, the next one less: the number is less. -/
theorem val_lt_of {b : Nat} (hb : 2 ≤ b) {l m : List Nat} {i x y : Nat} (hl : ∀ d ∈ l, d < b) (hm : ∀ d ∈ m, d < b) (hx : l[i]? = some x) (hy : m[i]? = some y) (h : l.drop (i + 1) = m.drop (i + 1)) (hxy : x < y) : val b l < val b m := by
 obtain ⟨hil, rfl⟩ := List.getElem?_eq_some_iff.1 hx
 obtain ⟨him, rfl⟩ := List.getElem?_eq_some_iff.1 hy
 rw [val_split b l i (by omega), val_split b m i (by omega), List.drop_eq_getElem_cons hil, List.drop_eq_getElem_cons him, h]
 simp only [val]
 have h1 : val b (l.take i) < b ^ i := by
  have := val_lt hb (l := l.take i) (fun d hd => hl d (List.mem_of_mem_take hd))
  rwa [List.length_take, Nat.min_eq_left (by omega)] at this
 have h2 : b ^ i * (l[i] + b * val b (m.drop (i + 1))) + b ^ i ≤ b ^ i * (m[i] + b * val b (m.drop (i + 1))) := by
  rw [← Nat.mul_succ]
  exact Nat.mul_le_mul_left _ (by omega)
 omega
theorem val_eq_of {b : Nat} {l m : List Nat} (h : l = m) : val b l = val b m := by rw [h]
theorem drop_cons_eq {l m : List Nat} {i x : Nat} (hx : l[i]? = some x) (hy : m[i]? = some x) (h : l.drop (i + 1) = m.drop (i + 1)) : l.drop i = m.drop i := by
 obtain ⟨hil, rfl⟩ := List.getElem?_eq_some_iff.1 hx
 obtain ⟨him, hxy⟩ := List.getElem?_eq_some_iff.1 hy
 rw [List.drop_eq_getElem_cons hil, List.drop_eq_getElem_cons him, h, hxy]
theorem val_set (b : Nat) : ∀ (l : List Nat) (i d x : Nat), l[i]? = some x → val b (l.set i d) + b ^ i * x = val b l + b ^ i * d
 | [], i, d, x, h => by simp at h
 | e :: r, 0, d, x, h => by
  simp at h
  subst h
  simp [val]
  omega
 | e :: r, i + 1, d, x, h => by
  have := val_set b r i d x (by simpa using h)
  simp only [List.set_cons_succ, val, Nat.pow_succ]
  have h2 : b * (val b (r.set i d) + b ^ i * x) = b * (val b r + b ^ i * d) := by rw [this]
  rw [Nat.mul_add, Nat.mul_add] at h2
  have e1 : b ^ i * b * x = b * (b ^ i * x) := by ac_rfl
  have e2 : b ^ i * b * d = b * (b ^ i * d) := by ac_rfl
  rw [e1, e2]
  omega
theorem val_replicate_zero (b : Nat) : ∀ n, val b (List.replicate n 0) = 0
 | 0 => rfl
 | n + 1 => by rw [List.replicate_succ, val, val_replicate_zero b n]; simp
theorem val_append_zeros (b : Nat) (l : List Nat) (n : Nat) : val b (l ++ List.replicate n 0) = val b l := by
 rw [val_append, val_replicate_zero]; simp
end Go.Proofs.YtnbphgeepnknlaaGreatDoor
