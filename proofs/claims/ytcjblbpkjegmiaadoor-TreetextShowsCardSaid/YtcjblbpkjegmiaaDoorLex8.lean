/- Plain words: all tokens; rows of tokens; walks: whether a text is a name, the keywords. -/
import Derived.Test.YtcjblbpkjegmiaaDoorLex7
import Derived.Deep.AppendLies
namespace Go.Proofs.YtcjblbpkjegmiaaDoor
open Go.RowKit
set_option linter.unusedVariables false

theorem inside_letter {c : UInt8} (h : isLetter c = true) : isInside c = true := by
  unfold isInside
  simp [h]

/-- What a token at the start of a text is. -/
theorem scan_ok {l : Bs} {k : Int} {n len : Nat} (h : scan l = (k, n, len, 0)) : (k = 5 ∧ l = [] ∧ len = 0 ∧ n = 0) ∨ (k ≠ 5 ∧ 0 < len ∧ len ≤ l.length) := by
  cases l with
  | nil =>
    rw [scan_end] at h
    injection h with h1 h2
    injection h2 with h2 h3
    injection h3 with h3 h4
    exact .inl ⟨h1.symm, rfl, h3.symm, h2.symm⟩
  | cons c r =>
    right
    cases hl : isLetter c
    · cases hd : isDigit c
      · rw [scan_sign hl hd] at h
        cases hs : signIdx (c :: r) signL 0 with
        | none => rw [hs] at h; simp at h
        | some i =>
          rw [hs] at h
          simp only [Prod.mk.injEq] at h
          obtain ⟨h1, _, h3, _⟩ := h
          obtain ⟨_, x, hx, hp⟩ := signIdx_get _ _ _ hs
          rw [Nat.sub_zero] at hx
          have hxx : signL.getD i ByteArray.empty = x := by simp [List.getD, hx]
          rw [hxx] at h3
          refine ⟨by omega, ?_, ?_⟩
          · have : x ∈ signL := List.mem_of_getElem? hx
            have hall : ∀ y ∈ signL, 0 < y.size := by decide
            rw [← h3]
            exact hall x this
          · rw [← h3, ← bs_length]
            exact (List.isPrefixOf_iff_prefix.1 hp).length_le
      · rw [scan_digit hl hd] at h
        split at h
        · rename_i he
          simp only [Prod.mk.injEq] at h
          obtain ⟨h1, _, h3, _⟩ := h
          have hr : (numSpec (c :: r)).2.1 = rowLen isDigit (c :: r) := by
            revert he
            unfold numSpec
            split
            · intro he; simp at he
            · split
              · intro he; simp at he
              · split
                · intro he; simp at he
                · intro _; rfl
          rw [hr] at h3
          refine ⟨by omega, ?_, ?_⟩
          · rw [← h3, rowLen_cons_true hd]; omega
          · rw [← h3]; exact rowLen_le _ _
        · rename_i he
          simp only [Prod.mk.injEq] at h
          omega
    · rw [scan_letter hl] at h
      have hpos : 0 < rowLen isInside (c :: r) := by rw [rowLen_cons_true (inside_letter hl)]; omega
      have hle := rowLen_le isInside (c :: r)
      split at h
      · simp at h
      · split at h
        all_goals
          simp only [Prod.mk.injEq] at h
          refine ⟨by omega, by omega, by omega⟩

theorem next_ok {l : Bs} {p : Nat} (hp : p ≤ l.length) (h : (next l p).2.2 = 0) : ((next l p).1.kind = 5 ∧ blank (l.drop p) = [] ∧ (next l p).2.1 = l.length) ∨ ((next l p).1.kind ≠ 5 ∧ p < (next l p).2.1 ∧ (next l p).2.1 ≤ l.length) := by
  have hb := blank_len (l.drop p)
  rw [List.length_drop] at hb
  have hs : scan (blank (l.drop p)) = ((scan (blank (l.drop p))).1, (scan (blank (l.drop p))).2.1, (scan (blank (l.drop p))).2.2.1, 0) := by
    unfold next at h
    simp only at h
    split at h
    · rename_i he
      rw [← he]
    · rename_i he
      simp at h
      exact absurd h he
  unfold next
  simp only
  rw [if_pos (by rw [hs])]
  simp only
  rcases scan_ok hs with ⟨h1, h2, h3, h4⟩ | ⟨h1, h2, h3⟩
  · left
    refine ⟨h1, h2, ?_⟩
    rw [h3, h2]
    simp
  · right
    refine ⟨h1, by omega, by omega⟩

def allF : Nat → Bs → Nat → List Tok → List Tok × Int × Int
  | 0, _, _, _ => ([], 0, 0)
  | n + 1, l, p, acc =>
    if (next l p).2.2 = 0 then
      if (next l p).1.kind = 5 then (acc, 0, 0) else allF n l (next l p).2.1 (acc ++ [(next l p).1])
    else ([], ((next l p).2.1 : Int), (next l p).2.2)

/-- All tokens of a text. -/
def all (l : Bs) : List Tok × Int × Int := if 65536 < l.length then ([], 0, 4) else allF (l.length + 1) l 0 []

theorem allF_enough : ∀ (n m : Nat) (l : Bs) (p : Nat) (acc : List Tok), p ≤ l.length → l.length + 1 - p ≤ n → l.length + 1 - p ≤ m → allF n l p acc = allF m l p acc
  | 0, m, l, p, acc, hp, h1, h2 => by omega
  | n + 1, 0, l, p, acc, hp, h1, h2 => by omega
  | n + 1, m + 1, l, p, acc, hp, h1, h2 => by
    unfold allF
    split
    · rename_i he
      split
      · rfl
      · rename_i hk
        rcases next_ok hp he with ⟨h3, _⟩ | ⟨_, h4, h5⟩
        · exact absurd h3 hk
        · exact allF_enough n m l _ _ h5 (by omega) (by omega)
    · rfl

/-- The tokens from place p on, behind acc. -/
def allFrom (l : Bs) (p : Nat) (acc : List Tok) : List Tok × Int × Int := allF (l.length + 1) l p acc
theorem allFrom_end {l : Bs} {p : Nat} {acc : List Tok} (h : (next l p).2.2 = 0) (hk : (next l p).1.kind = 5) : allFrom l p acc = (acc, 0, 0) := by
  unfold allFrom allF
  rw [if_pos h, if_pos hk]
theorem allFrom_err {l : Bs} {p : Nat} {acc : List Tok} (h : (next l p).2.2 ≠ 0) : allFrom l p acc = ([], ((next l p).2.1 : Int), (next l p).2.2) := by
  unfold allFrom allF
  rw [if_neg h]
theorem allFrom_more {l : Bs} {p : Nat} {acc : List Tok} (hp : p ≤ l.length) (h : (next l p).2.2 = 0) (hk : (next l p).1.kind ≠ 5) : allFrom l p acc = allFrom l (next l p).2.1 (acc ++ [(next l p).1]) := by
  rcases next_ok hp h with ⟨h3, _⟩ | ⟨_, h4, h5⟩
  · exact absurd h3 hk
  · show allF (l.length + 1) l p acc = _
    rw [allF, if_pos h, if_neg hk]
    exact allF_enough _ _ _ _ _ h5 (by omega) (by omega)

def tokL (t : Tok) : List Value := [.int .i64 t.kind, .int .i64 t.n, .string ⟨t.text.toArray⟩, .int .i64 t.at_]
def tokV (t : Tok) : Nat → Value
  | 0 => .int .i64 t.kind
  | 1 => .int .i64 t.n
  | 2 => .string ⟨t.text.toArray⟩
  | _ => .int .i64 t.at_
def flat (l : List Tok) : List Value := l.flatMap tokL
theorem flat_snoc (l : List Tok) (z : Tok) : flat (l ++ [z]) = flat l ++ tokL z := by simp [flat]
theorem flat_length (l : List Tok) : (flat l).length = l.length * 4 := by
  unfold flat
  induction l with
  | nil => rfl
  | cons z l ih => simp only [List.flatMap_cons, List.length_append, ih, List.length_cons]; simp [tokL]; omega
theorem flat_get {l : List Tok} {k j : Nat} {z : Tok} (h : l[k]? = some z) (hj : j < 4) : (flat l)[k * 4 + j]? = some (tokV z j) := by
  unfold flat
  induction l generalizing k with
  | nil => simp at h
  | cons y l ih =>
    rw [List.flatMap_cons]
    cases k with
    | zero =>
      simp at h
      subst h
      rw [List.getElem?_append_left (by simp [tokL]; omega)]
      have hj' : j = 0 ∨ j = 1 ∨ j = 2 ∨ j = 3 := by omega
      rcases hj' with rfl | rfl | rfl | rfl <;> rfl
    | succ k =>
      rw [List.getElem?_append_right (by simp [tokL]; omega)]
      rw [show (k + 1) * 4 + j - (tokL y).length = k * 4 + j by simp [tokL]; omega]
      exact ih (by simpa using h)

/-- A row of tokens lies at A. -/
def ToksAt (w : World) (A : Option Addr) (l : List Tok) : Prop := l = [] ∨ ∃ b off, A = some ⟨b, off, none⟩ ∧ b < w.heap.size ∧ ∀ k z, l[k]? = some z → ∀ j, j < 4 → w.cell? ⟨b, off + k * 4 + j, none⟩ = some (tokV z j)
theorem ToksAt.belowB {w w' : World} {B : Nat} {A : Option Addr} {l : List Tok} (h : ToksAt w A l) (hb : Below B w w') (hB : B = w.heap.size) : ToksAt w' A l := by
  rcases h with h | ⟨b, off, rfl, hlt, hc⟩
  · exact .inl h
  · exact .inr ⟨b, off, rfl, Nat.lt_of_lt_of_le hlt hb.size, fun k z hz j hj => by rw [hb.cell (p := ⟨b, _, none⟩) (by subst hB; exact hlt)]; exact hc k z hz j hj⟩

theorem ownsRow_below {w w' : World} {base : Nat} {e : TypeId} {size : Nat} {v : Value} {n : Nat} {xs : List Value} (h : w.ownsRow base e size v n xs) (hb : Below w.heap.size w w') : w'.ownsRow base e size v n xs := by
  refine ⟨h.1, ?_⟩
  rcases h.2 with hn | ⟨g, cap, cur, rfl, hb', hgg, rest⟩
  · exact .inl hn
  · refine .inr ⟨g, cap, cur, rfl, hb', ?_, rest⟩
    rw [hb.block g ?_]
    · exact hgg
    · have := h.lt g rfl
      exact this.2

theorem addr_add (b o k : Nat) : (⟨b, o, none⟩ : Addr).add k = ⟨b, o + k, none⟩ := by unfold Addr.add; split <;> simp_all

theorem toks_of_own {w : World} {base : Nat} {v : Value} {T : TypeId} {l : List Tok} (h : w.ownsRow base T 4 v l.length (flat l)) : ∃ A c, v = .slice A l.length c ∧ ToksAt w A l ∧ ∀ a, A = some a → base ≤ a.block := by
  rcases h.2 with ⟨rfl, hn⟩ | ⟨g, cap, cur, rfl, hb, hg, _⟩
  · exact ⟨none, 0, by rw [hn], .inl (List.eq_nil_of_length_eq_zero hn), fun a h => by cases h⟩
  · refine ⟨_, _, rfl, .inr ⟨g, 0, rfl, (h.lt g rfl).2, fun k z hz j hj => ?_⟩, fun a h => by injection h with h; subst h; exact hb⟩
    have := h.cells (g := g) rfl (k * 4 + j) _ (flat_get hz hj)
    rw [addr_add] at this
    rw [Nat.zero_add]
    simpa using this

/-- Whether a text is a name. -/
def isName (l : Bs) : Bool := decide (l ≠ []) && decide (l.length ≤ 24) && isLetter (l.headD 0) && decide (rowLen isInside l = l.length) && !isWord l
end Go.Proofs.YtcjblbpkjegmiaaDoor
