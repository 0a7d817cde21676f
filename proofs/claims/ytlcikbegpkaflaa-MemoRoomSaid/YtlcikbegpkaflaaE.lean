/- Plain laws of the cache: what a lookup finds is what was stored last for its key. -/
import Derived.Test.YtlcikbegpkaflaaD
namespace Go.Proofs.Ytlcikbegpkaflaa
open Go.RowKit
set_option linter.unusedVariables false

def sameKey (x y : Act1) : Bool := x.op == y.op && x.a == y.a && x.b == y.b && x.c == y.c

theorem sameKey_iff {x y : Act1} : sameKey x y = true ↔ x.op = y.op ∧ x.a = y.a ∧ x.b = y.b ∧ x.c = y.c := by
  simp [sameKey, and_assoc]
theorem sameKey_symm (x y : Act1) : sameKey x y = sameKey y x := by
  rw [Bool.eq_iff_iff, sameKey_iff, sameKey_iff]
  constructor <;> (rintro ⟨h1, h2, h3, h4⟩; exact ⟨h1.symm, h2.symm, h3.symm, h4.symm⟩)
theorem sameKey_refl (x : Act1) : sameKey x x = true := sameKey_iff.2 ⟨rfl, rfl, rfl, rfl⟩

theorem lookA_same {n : Nat} {t : Nat → Ent} {x y : Act1} (h : sameKey x y = true) : lookA n (putA n t x) y = (x.r, true) := by
  obtain ⟨h1, h2, h3, h4⟩ := sameKey_iff.1 h
  unfold lookA putA look put keyEq
  rw [h1, h2, h3, h4]
  simp

theorem lookA_other {n : Nat} {t : Nat → Ent} {x y : Act1} (h : sameKey x y = false) : lookA n (putA n t x) y = (0, false) ∨ lookA n (putA n t x) y = lookA n t y := by
  unfold lookA putA look put
  by_cases hs : slotOf n y.op y.a y.b y.c = slotOf n x.op x.a x.b x.c
  · left
    rw [if_pos hs]
    have : keyEq ⟨x.op, x.a, x.b, x.c, x.r, true⟩ y.op y.a y.b y.c = false := h
    simp [this]
  · right
    rw [if_neg hs]

theorem lookA_none (n : Nat) (y : Act1) : lookA n (fun _ => noEnt) y = (0, false) := rfl

theorem lookA_zero (n : Nat) (t : Nat → Ent) (y : Act1) (h : (lookA n t y).2 = false) : (lookA n t y).1 = 0 := by
  unfold lookA look at *
  split
  · rename_i h1; rw [if_pos h1] at h; cases h
  · rfl

/-- The table after an operation. -/
def step (n : Nat) (t : Nat → Ent) (x : Act1) : Nat → Ent := if x.kind = 1 then putA n t x else if x.kind = 2 then (fun _ => noEnt) else t
/-- The table after operations, the most recent first. -/
def runR (n : Nat) : List Act1 → Nat → Ent
  | [] => fun _ => noEnt
  | x :: r => step n (runR n r) x

/-- The reference's search, the most recent operation first. -/
def keptR : List Act1 → Act1 → Bool → Int × Bool × Bool
  | [], _, _ => (0, false, false)
  | x :: r, y, last => if x.kind = 2 then (0, false, false) else if x.kind = 1 then (if sameKey x y then (x.r, true, last) else keptR r y false) else keptR r y last

theorem keptR_false (r : List Act1) (y : Act1) : (keptR r y false).2.2 = false := by
  induction r with
  | nil => rfl
  | cons x r ih =>
    unfold keptR
    split
    · rfl
    · split
      · split
        · rfl
        · exact ih
      · exact ih

theorem keptR_found (n : Nat) (y : Act1) : ∀ (r : List Act1) (last : Bool), (lookA n (runR n r) y).2 = true → (keptR r y last).2.1 = true ∧ (keptR r y last).1 = (lookA n (runR n r) y).1
  | [], _, h => by cases h
  | x :: r, last, h => by
    unfold keptR
    unfold runR step at h ⊢
    by_cases h2 : x.kind = 2
    · rw [if_neg (by omega), if_pos h2] at h
      cases h
    · rw [if_neg h2]
      by_cases h1 : x.kind = 1
      · rw [if_pos h1] at h ⊢
        rw [if_pos h1]
        cases hs : sameKey x y
        · rcases lookA_other (n := n) (t := runR n r) hs with e | e
          · rw [e] at h; cases h
          · rw [e] at h ⊢
            exact keptR_found n y r false h
        · rw [lookA_same hs]
          exact ⟨rfl, rfl⟩
      · rw [if_neg h1, if_neg h2] at h ⊢
        rw [if_neg h1]
        exact keptR_found n y r last h

theorem keptR_last (n : Nat) (y : Act1) : ∀ (r : List Act1), (keptR r y true).2.2 = true → (lookA n (runR n r) y).2 = true
  | [], h => by cases h
  | x :: r, h => by
    unfold keptR at h
    unfold runR step
    by_cases h2 : x.kind = 2
    · rw [if_pos h2] at h
      cases h
    · rw [if_neg h2] at h
      by_cases h1 : x.kind = 1
      · rw [if_pos h1] at h ⊢
        cases hs : sameKey x y
        · rw [hs, if_neg (by simp), keptR_false] at h
          cases h
        · rw [lookA_same hs]
      · rw [if_neg h1] at h
        rw [if_neg h1, if_neg h2]
        exact keptR_last n y r h

/-- MemoKeeps' test, at one lookup. -/
theorem keeps_ok (n : Nat) (y : Act1) (r : List Act1) :
    ((lookA n (runR n r) y).2 = true → (keptR r y true).2.1 = true ∧ (lookA n (runR n r) y).1 = (keptR r y true).1) ∧
    ((lookA n (runR n r) y).2 = false → (lookA n (runR n r) y).1 = 0 ∧ (keptR r y true).2.2 = false) := by
  refine ⟨fun h => ?_, fun h => ⟨lookA_zero n _ y h, ?_⟩⟩
  · have := keptR_found n y r true h
    exact ⟨this.1, this.2.symm⟩
  · cases hl : (keptR r y true).2.2
    · rfl
    · have := keptR_last n y r hl
      rw [h] at this
      cases this

/-- Only Puts: a found key was put, and sits in its own slot. -/
theorem runR_full (n : Nat) : ∀ (r : List Act1) (s : Nat), (runR n r s).full = true → s = slotOf n (runR n r s).op (runR n r s).a (runR n r s).b (runR n r s).c
  | [], s, h => by cases h
  | x :: r, s, h => by
    unfold runR step at h ⊢
    by_cases h1 : x.kind = 1
    · rw [if_pos h1] at h ⊢
      unfold putA put at h ⊢
      by_cases hs : s = slotOf n x.op x.a x.b x.c
      · rw [if_pos hs]
        exact hs
      · rw [if_neg hs] at h ⊢
        exact runR_full n r s h
    · rw [if_neg h1] at h ⊢
      by_cases h2 : x.kind = 2
      · rw [if_pos h2] at h; cases h
      · rw [if_neg h2] at h ⊢
        exact runR_full n r s h
end Go.Proofs.Ytlcikbegpkaflaa
