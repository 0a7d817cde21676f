/- Plain words of the lexer: lists of bytes. -/
import Derived.Test.YtcjblbpkjegmiaaDoorRows
namespace Go.Proofs.YtcjblbpkjegmiaaDoor
set_option linter.unusedVariables false

abbrev Bs := List UInt8

def isWs (c : UInt8) : Bool := c.toNat == 32 || c.toNat == 9 || c.toNat == 10 || c.toNat == 13
def isLetter (c : UInt8) : Bool := (decide (97 ≤ c.toNat) && decide (c.toNat ≤ 122)) || (decide (65 ≤ c.toNat) && decide (c.toNat ≤ 90))
def isDigit (c : UInt8) : Bool := decide (48 ≤ c.toNat) && decide (c.toNat ≤ 57)
def isInside (c : UInt8) : Bool := isLetter c || isDigit c || c.toNat == 95

/-- The bytes of a string. -/
def bs (s : ByteArray) : Bs := s.data.toList

theorem bs_length (s : ByteArray) : (bs s).length = s.size := by unfold bs; rw [Array.length_toList]; rfl
theorem bs_mk (l : Bs) : bs ⟨l.toArray⟩ = l := rfl
theorem bs_ext {s t : ByteArray} (h : bs s = bs t) : s = t := by
  cases s; cases t
  simp only [bs] at h
  congr 1
  exact Array.toList_inj.1 h
theorem bs_get {s : ByteArray} {k : Nat} (h : k < s.size) : (bs s)[k]? = some s[k] := by
  unfold bs
  rw [Array.getElem?_toList]
  exact Array.getElem?_eq_getElem (by exact h)
theorem bs_extract (s : ByteArray) (a b : Nat) : bs (s.extract a b) = ((bs s).take b).drop a := by
  unfold bs
  rw [show (s.extract a b).data = s.data.extract a b from by simp]
  rw [Array.toList_extract]
  simp [List.drop_take]

theorem take_snoc {l : Bs} {k : Nat} {c : UInt8} (h : l[k]? = some c) : l.take (k + 1) = l.take k ++ [c] := by
  obtain ⟨hj, rfl⟩ := List.getElem?_eq_some_iff.1 h
  exact List.take_succ_eq_append_getElem hj
theorem drop_cons {l : Bs} {k : Nat} {c : UInt8} (h : l[k]? = some c) : l.drop k = c :: l.drop (k + 1) := by
  obtain ⟨hj, rfl⟩ := List.getElem?_eq_some_iff.1 h
  exact List.drop_eq_getElem_cons hj
end Go.Proofs.YtcjblbpkjegmiaaDoor
