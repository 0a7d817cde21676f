/- Plain words: white space, the next token. -/
import Derived.Test.YtcjblbpkjegmiaaDoorLex4
namespace Go.Proofs.YtcjblbpkjegmiaaDoor
open Go.RowKit
set_option linter.unusedVariables false

def isNl (c : UInt8) : Bool := c.toNat == 10
def notNl (c : UInt8) : Bool := !(c.toNat == 10)
def isDash (c : UInt8) : Bool := c.toNat == 45
/-- Two dashes at the start. -/
def dashes (l : Bs) : Bool := Lib.hasPrefix l [45, 45]

def blankF : Nat → Bs → Bs
  | 0, l => l
  | _ + 1, [] => []
  | n + 1, c :: r => if isWs c then blankF n r else if dashes (c :: r) then blankF n ((c :: r).dropWhile notNl) else c :: r

theorem dashes_form {l : Bs} (h : dashes l = true) : ∃ r, l = 45 :: 45 :: r := by
  unfold dashes Lib.hasPrefix at h
  match l, h with
  | [], h => cases h
  | [_], h => simp [List.isPrefixOf] at h
  | a :: b :: r, h =>
    simp [List.isPrefixOf] at h
    exact ⟨r, by rw [← h.1, ← h.2]⟩

theorem dropWhile_len (p : UInt8 → Bool) (l : Bs) : (l.dropWhile p).length ≤ l.length := (List.dropWhile_suffix p).length_le

theorem comment_len {l : Bs} (h : dashes l = true) : (l.dropWhile notNl).length + 2 ≤ l.length := by
  obtain ⟨r, rfl⟩ := dashes_form h
  have : ((45 : UInt8) :: 45 :: r).dropWhile notNl = r.dropWhile notNl := rfl
  rw [this]
  have := dropWhile_len notNl r
  simp only [List.length_cons]
  omega

theorem blankF_enough : ∀ (n m : Nat) (l : Bs), l.length ≤ n → l.length ≤ m → blankF n l = blankF m l
  | 0, m, l, h1, h2 => by
    have : l = [] := List.eq_nil_of_length_eq_zero (by omega)
    subst this
    cases m <;> rfl
  | n + 1, 0, l, h1, h2 => by
    have : l = [] := List.eq_nil_of_length_eq_zero (by omega)
    subst this
    rfl
  | n + 1, m + 1, [], h1, h2 => rfl
  | n + 1, m + 1, c :: r, h1, h2 => by
    simp only [List.length_cons] at h1 h2
    unfold blankF
    split
    · exact blankF_enough n m r (by omega) (by omega)
    · split
      · rename_i h
        have := comment_len h
        simp only [List.length_cons] at this
        exact blankF_enough n m _ (by omega) (by omega)
      · rfl

/-- What is left behind white space and comments. -/
def blank (l : Bs) : Bs := blankF l.length l

theorem blank_nil : blank [] = [] := rfl
theorem blank_ws {c : UInt8} {r : Bs} (h : isWs c = true) : blank (c :: r) = blank r := by
  unfold blank
  show blankF (r.length + 1) (c :: r) = _
  rw [blankF, if_pos h]
theorem blank_comment {l : Bs} (h : dashes l = true) : blank l = blank (l.dropWhile notNl) := by
  obtain ⟨r, rfl⟩ := dashes_form h
  have hl := comment_len h
  simp only [List.length_cons] at hl
  unfold blank
  show blankF ((45 :: r).length + 1) (45 :: 45 :: r) = _
  rw [blankF, if_neg (by decide), if_pos h]
  exact blankF_enough _ _ _ (by simp only [List.length_cons]; omega) (Nat.le_refl _)
theorem blank_stop {c : UInt8} {r : Bs} (h : isWs c = false) (hd : dashes (c :: r) = false) : blank (c :: r) = c :: r := by
  unfold blank
  show blankF (r.length + 1) (c :: r) = _
  rw [blankF, if_neg (by rw [h]; simp), if_neg (by rw [hd]; simp)]
theorem blank_trim (l : Bs) : blank (l.dropWhile isWs) = blank l := by
  induction l with
  | nil => rfl
  | cons c r ih =>
    cases h : isWs c
    · rw [List.dropWhile_cons_of_neg (by rw [h]; simp)]
    · rw [List.dropWhile_cons_of_pos h, ih, blank_ws h]
theorem blankF_suffix : ∀ (n : Nat) (l : Bs), (blankF n l) <:+ l
  | 0, l => List.suffix_refl l
  | n + 1, [] => List.suffix_refl []
  | n + 1, c :: r => by
    unfold blankF
    split
    · exact (blankF_suffix n r).trans (List.suffix_cons c r)
    · split
      · exact (blankF_suffix n _).trans (List.dropWhile_suffix _)
      · exact List.suffix_refl _
theorem blank_suffix (l : Bs) : blank l <:+ l := blankF_suffix _ l
theorem blank_len (l : Bs) : (blank l).length ≤ l.length := (blank_suffix l).length_le

/-- A suffix is a drop. -/
theorem suffix_drop {a l : Bs} (h : a <:+ l) : l.drop (l.length - a.length) = a := by
  obtain ⟨p, rfl⟩ := h
  rw [List.length_append, show p.length + a.length - a.length = p.length by omega]
  simp

/-- A token. -/
structure Tok where
  kind : Int
  n : Int
  text : Bs
  at_ : Int
def Tok.cells (t : Tok) : Array Value := #[.int .i64 t.kind, .int .i64 t.n, .string ⟨t.text.toArray⟩, .int .i64 t.at_]
def Tok.val (t : Tok) : Value := .agg t.cells
def noTok : Tok := ⟨0, 0, [], 0⟩

def isWord (l : Bs) : Bool := Lib.containsS wordL ⟨l.toArray⟩

/-- The token at the start of l: its kind, its number, its length, and an error. -/
def scan (l : Bs) : Int × Nat × Nat × Int :=
  match l with
  | [] => (5, 0, 0, 0)
  | c :: _ =>
    if isLetter c then
      if 24 < rowLen isInside l then (0, 0, 0, 4)
      else if isWord (l.take (rowLen isInside l)) then (3, 0, rowLen isInside l, 0)
      else (2, 0, rowLen isInside l, 0)
    else if isDigit c then
      if (numSpec l).2.2 = 0 then (1, (numSpec l).1, (numSpec l).2.1, 0) else (0, 0, 0, (numSpec l).2.2)
    else match signIdx l signL 0 with
      | some k => (4, 0, (signL.getD k ByteArray.empty).size, 0)
      | none => (0, 0, 0, 15)

/-- The next token at or behind place p of l, the place behind it, and an error. -/
def next (l : Bs) (p : Nat) : Tok × Nat × Int :=
  let r := blank (l.drop p)
  let q := l.length - r.length
  let x := scan r
  if x.2.2.2 = 0 then (⟨x.1, x.2.1, r.take x.2.2.1, q⟩, q + x.2.2.1, 0) else (noTok, q, x.2.2.2)

def nextVal (x : Tok × Nat × Int) : Value := .tuple #[x.1.val, .int .i64 x.2.1, .int .i64 x.2.2]

theorem indexByte_ge (l : Bs) (c : UInt8) : -1 ≤ Lib.indexByte l c := by
  induction l with
  | nil => exact Int.le_refl _
  | cons a r ih =>
    unfold Lib.indexByte
    split
    · omega
    · split <;> omega
theorem indexByte_nl (l : Bs) : (Lib.indexByte l 10 < 0 ∧ l.dropWhile notNl = []) ∨ ∃ k : Nat, Lib.indexByte l 10 = k ∧ k ≤ l.length ∧ l.drop k = l.dropWhile notNl := by
  induction l with
  | nil => exact .inl ⟨by decide, rfl⟩
  | cons b r ih =>
    unfold Lib.indexByte
    by_cases hb : b = 10
    · subst hb
      exact .inr ⟨0, rfl, Nat.zero_le _, rfl⟩
    · have hn : notNl b = true := by
        unfold notNl
        simp
        intro h
        exact hb (UInt8.toNat_inj.1 h)
      rw [if_neg (by simpa using hb), List.dropWhile_cons_of_pos hn]
      rcases ih with ⟨h1, h2⟩ | ⟨k, h1, h2, h3⟩
      · left
        refine ⟨?_, h2⟩
        split
        · decide
        · rename_i hne
          have hne' : Lib.indexByte r 10 ≠ -1 := by simpa using hne
          have hge := indexByte_ge r 10
          omega
      · right
        rw [h1, if_neg (by simp)]
        exact ⟨k + 1, by omega, by simp only [List.length_cons]; omega, by simpa using h3⟩

theorem blank_self {l m : Bs} (h : l = m.dropWhile isWs) (hd : dashes l = false) : blank l = l := by
  cases l with
  | nil => rfl
  | cons c r =>
    refine blank_stop ?_ hd
    cases hc : isWs c
    · rfl
    · exfalso
      clear hd
      induction m with
      | nil => simp at h
      | cons a m ih =>
        cases ha : isWs a
        · rw [List.dropWhile_cons_of_neg (by rw [ha]; simp)] at h
          injection h with h _
          rw [h, ha] at hc
          cases hc
        · rw [List.dropWhile_cons_of_pos ha] at h
          exact ih h

theorem next_eq {l t : Bs} {p q : Nat} {k : Int} {n len : Nat} {e : Int} (hb : blank (l.drop p) = t) (hq : l.drop q = t) (hql : q ≤ l.length) (hs : scan t = (k, n, len, e)) :
    next l p = if e = 0 then (⟨k, n, t.take len, q⟩, q + len, 0) else (noTok, q, e) := by
  have hlen : t.length = l.length - q := by rw [← hq, List.length_drop]
  have e1 : l.length - t.length = q := by omega
  unfold next
  rw [hb]
  simp only [hs, e1]

theorem scan_end : scan [] = (5, 0, 0, 0) := rfl
theorem scan_letter {c : UInt8} {r : Bs} (h : isLetter c = true) : scan (c :: r) = if 24 < rowLen isInside (c :: r) then (0, 0, 0, 4) else if isWord ((c :: r).take (rowLen isInside (c :: r))) then (3, 0, rowLen isInside (c :: r), 0) else (2, 0, rowLen isInside (c :: r), 0) := by
  simp only [scan, h, if_true]
theorem scan_digit {c : UInt8} {r : Bs} (h : isLetter c = false) (h2 : isDigit c = true) : scan (c :: r) = if (numSpec (c :: r)).2.2 = 0 then ((1 : Int), (numSpec (c :: r)).1, (numSpec (c :: r)).2.1, (0 : Int)) else ((0 : Int), 0, 0, ((numSpec (c :: r)).2.2 : Int)) := by
  simp only [scan, h, h2, Bool.false_eq_true, if_true, if_false]
theorem scan_sign {c : UInt8} {r : Bs} (h : isLetter c = false) (h2 : isDigit c = false) : scan (c :: r) = match signIdx (c :: r) signL 0 with
      | some k => ((4 : Int), 0, (signL.getD k ByteArray.empty).size, 0)
      | none => (0, 0, 0, 15) := by
  simp only [scan, h, h2, Bool.false_eq_true, if_false]
end Go.Proofs.YtcjblbpkjegmiaaDoor
