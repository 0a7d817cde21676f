/- Plain words: tokens written with white space between them. -/
import Derived.Test.YtnhabokkjmcdoaaDoorLexP
namespace Go.Proofs.YtnhabokkjmcdoaaDoor
open Go.RowKit
set_option linter.unusedVariables false

/-- The five kinds of white space. -/
def blanks5 : List Bs := [[32], [10], [9, 32, 13], [32, 45, 45, 32, 120, 32, 58, 61, 32, 49, 10], [32, 45, 45, 10]]
def blankOf (k : Nat) : Bs := blanks5.getD (k % 5) []

theorem blank_five : ∀ b ∈ blanks5, ∀ (y : Bs), blank (b ++ y) = blank y := by
  intro b hb y
  simp only [blanks5, List.mem_cons, List.not_mem_nil, or_false] at hb
  rcases hb with rfl | rfl | rfl | rfl | rfl
  · exact blank_ws (by decide)
  · exact blank_ws (by decide)
  · show blank (9 :: 32 :: 13 :: y) = _
    rw [blank_ws (by decide), blank_ws (by decide), blank_ws (by decide)]
  · show blank (32 :: 45 :: 45 :: 32 :: 120 :: 32 :: 58 :: 61 :: 32 :: 49 :: 10 :: y) = _
    rw [blank_ws (by decide), blank_comment rfl]
    show blank (10 :: y) = _
    rw [blank_ws (by decide)]
  · show blank (32 :: 45 :: 45 :: 10 :: y) = _
    rw [blank_ws (by decide), blank_comment rfl]
    show blank (10 :: y) = _
    rw [blank_ws (by decide)]
theorem five_sep : ∀ b ∈ blanks5, ∀ (y : Bs), Sep (b ++ y) := by
  intro b hb y
  simp only [blanks5, List.mem_cons, List.not_mem_nil, or_false] at hb
  rcases hb with rfl | rfl | rfl | rfl | rfl <;> exact sep_cons (by decide)
theorem five_len : ∀ b ∈ blanks5, b.length ≤ 11 := by decide
theorem blankOf_mem (k : Nat) : blankOf k ∈ blanks5 := by
  unfold blankOf
  have h : k % 5 < blanks5.length := Nat.mod_lt _ (by decide)
  rw [show blanks5.getD (k % 5) [] = blanks5[k % 5] from by simp [List.getD, h]]
  exact List.getElem_mem _

/-- Tokens, each behind white space. -/
def glue (f : Nat → Bs) : Nat → List Tok → Bs
  | _, [] => []
  | i, t :: r => f i ++ t.text ++ glue f (i + 1) r
theorem glue_snoc (f : Nat → Bs) : ∀ (ts : List Tok) (i : Nat) (t : Tok), glue f i (ts ++ [t]) = glue f i ts ++ f (i + ts.length) ++ t.text
  | [], i, t => by simp [glue]
  | u :: ts, i, t => by
    simp only [List.cons_append, glue, glue_snoc f ts (i + 1) t, List.length_cons]
    rw [show i + 1 + ts.length = i + (ts.length + 1) by omega]
    simp [List.append_assoc]
theorem glue_len {f : Nat → Bs} (hf : ∀ i, f i ∈ blanks5) : ∀ (ts : List Tok) (i : Nat), (glue f i ts).length ≤ 11 * ts.length + (ts.map fun t => t.text.length).sum
  | [], i => by simp [glue]
  | t :: ts, i => by
    have h1 := glue_len hf ts (i + 1)
    have h2 := five_len _ (hf i)
    simp only [glue, List.length_append, List.length_cons, List.map_cons, List.sum_cons]
    omega

/-- The same but for the places. -/
def sameTok (a b : Tok) : Prop := a.kind = b.kind ∧ a.n = b.n ∧ a.text = b.text

theorem glue_toks {f : Nat → Bs} (hf : ∀ i, f i ∈ blanks5) : ∀ (ts : List Tok) (i : Nat) (P : Bs), (∀ t ∈ ts, Good t) →
    ∃ us : List Tok, Toks (P ++ glue f i ts ++ [32]) P.length us ∧ us.length = ts.length ∧ ∀ (j : Nat) (a b : Tok), us[j]? = some a → ts[j]? = some b → sameTok a b
  | [], i, P, hg => by
    refine ⟨[], ?_, rfl, fun j a b h => by simp at h⟩
    have hb : blank ((P ++ glue f i [] ++ [32]).drop P.length) = [] := by
      simp only [glue, List.append_nil, List.drop_left]
      rfl
    have := next_eq (p := P.length) (q := (P ++ glue f i [] ++ [32]).length) hb (by rw [List.drop_length]) (Nat.le_refl _) scan_end
    rw [if_pos rfl] at this
    exact ⟨by rw [this], by rw [this]⟩
  | t :: ts, i, P, hg => by
    have g := hg t (List.mem_cons_self ..)
    obtain ⟨us, h1, h2, h3⟩ := glue_toks hf ts (i + 1) (P ++ f i ++ t.text) (fun u hu => hg u (List.mem_cons_of_mem _ hu))
    have hsep : Sep (glue f (i + 1) ts ++ [32]) := by
      cases ts with
      | nil => exact sep_cons (by decide)
      | cons u ts =>
        simp only [glue, List.append_assoc]
        exact five_sep _ (hf _) _
    have hL : P ++ glue f i (t :: ts) ++ [32] = P ++ f i ++ t.text ++ glue f (i + 1) ts ++ [32] := by simp [glue, List.append_assoc]
    rw [← hL] at h1
    have hb : blank ((P ++ glue f i (t :: ts) ++ [32]).drop P.length) = t.text ++ (glue f (i + 1) ts ++ [32]) := by
      rw [hL]
      simp only [List.append_assoc, List.drop_left]
      rw [blank_five _ (hf i), solid_blank (g.solid _ hsep)]
    have hq : (P ++ glue f i (t :: ts) ++ [32]).drop (P.length + (f i).length) = t.text ++ (glue f (i + 1) ts ++ [32]) := by
      rw [hL]
      rw [show P ++ f i ++ t.text ++ glue f (i + 1) ts ++ [32] = (P ++ f i) ++ (t.text ++ (glue f (i + 1) ts ++ [32])) by simp [List.append_assoc]]
      rw [← List.length_append, List.drop_left]
    have hn := next_eq (p := P.length) hb hq (by rw [hL]; simp only [List.length_append]; omega) (g.scan _ hsep)
    rw [if_pos rfl, List.take_left] at hn
    refine ⟨⟨t.kind, t.n.toNat, t.text, ((P.length + (f i).length : Nat) : Int)⟩ :: us, ⟨by rw [hn], by rw [hn], g.kind, ?_⟩, by simp [h2], ?_⟩
    · rw [hn]
      dsimp only
      rw [show P.length + (f i).length + t.text.length = (P ++ f i ++ t.text).length by simp only [List.length_append]]
      exact h1
    · intro j a b ha hb
      cases j with
      | zero =>
        simp at ha hb
        subst ha hb
        exact ⟨rfl, by dsimp only; have := g.n0; omega, rfl⟩
      | succ j =>
        simp at ha hb
        exact h3 j a b ha hb

/-- A token's text, alone. -/
theorem good_next {t : Tok} (g : Good t) : next t.text 0 = (⟨t.kind, t.n.toNat, t.text, 0⟩, t.text.length, 0) := by
  have h1 := g.scan [] sep_nil
  have h2 := solid_blank (g.solid [] sep_nil)
  rw [List.append_nil] at h1 h2
  have := next_eq (l := t.text) (p := 0) (q := 0) (t := t.text) (by rw [List.drop_zero]; exact h2) (by rw [List.drop_zero]) (Nat.zero_le _) h1
  rw [if_pos rfl, List.take_length] at this
  rw [this]
  simp

/-- The texts of a text's tokens are together no longer than it. -/
theorem toks_sum : ∀ (ts : List Tok) (l : Bs) (p : Nat), p ≤ l.length → Toks l p ts → p + (ts.map fun t => t.text.length).sum ≤ l.length
  | [], l, p, hp, h => by simpa using hp
  | t :: ts, l, p, hp, h => by
    obtain ⟨he, ht, hk, hr⟩ := h
    rcases next_ok hp he with ⟨h3, _⟩ | ⟨_, h4, h5⟩
    · rw [ht] at h3; exact absurd h3 hk
    · have h6 := toks_sum ts l _ h5 hr
      obtain ⟨k, n, len, q, r, h1, h2, h3, h4', h5', h6', h7, h8⟩ := next_form hp he
      rw [h8] at ht h6
      dsimp only at ht h6
      rw [← ht]
      simp only [List.map_cons, List.sum_cons, List.length_take]
      omega
end Go.Proofs.YtnhabokkjmcdoaaDoor
