/- Walks of the reference of terms: the names (ref30.In, With, names, Names). -/
import Derived.Test.YtnbphgeepnknlaaDoorQRefA
import Derived.Test.YtnbphgeepnknlaaDoorQFrmP
import Derived.Test.YtnbphgeepnknlaaDoorQLexB
import Derived.Test.YtnbphgeepnknlaaDoorQTrmI
namespace Go.Proofs.YtnbphgeepnknlaaDoor
open Go.RowKit
set_option linter.unusedVariables false

def InQ (l : List ByteArray) (w : World) (e : Ending) (w' : World) : Prop := ∃ b, e = .returned (.bool b) ∧ (b = true → 0 < l.length) ∧ w = w'

/-- What With leaves: a row of strings, not empty. -/
def WithQ (l : List ByteArray) (w : World) (e : Ending) (w' : World) : Prop := ∃ A' c' L', e = .returned (.slice A' L'.length c') ∧ StrsAt w' A' L' ∧ 0 < L'.length ∧ L'.length ≤ l.length + 1 ∧ Below w.heap.size w w'
theorem own_shape {w : World} {B : Nat} {T : TypeId} {v : Value} {n : Nat} {xs : List Value} (h : w.ownsRow B T 1 v n xs) : ∃ a cap, v = .slice a n cap := by
  rcases h.2 with ⟨rfl, rfl⟩ | ⟨g, cap, cur, rfl, _⟩
  · exact ⟨_, _, rfl⟩
  · exact ⟨_, _, rfl⟩
theorem own_mono {w : World} {B n : Nat} {T : TypeId} {v : Value} {xs ys : List Value} {m : Nat} (h : w.ownsRow B T 1 v n xs) (hn : n = m) (hx : xs = ys) : w.ownsRow B T 1 v m ys := by subst hn; subst hx; exact h
theorem with_below {w w2 w3 : World} {o : Obj} {v : Value} {n : Nat} {xs : List Value} {T : TypeId} (hb : Below w.heap.size w w2) (ho : w2.ownsRow w.heap.size T 1 v n xs) (hg : (w2.alloc o).grownBy w3 v.ownBlock) : Below w.heap.size w w3 :=
  (hb.alloc hb.size o).grown hg (by simp; have := hb.size; omega) fun k hk => (ho.lt k hk).1



/-- What names leaves. -/
def NmsQ (op : Int) (m : Nat) (t : Tm) (w : World) (e : Ending) (w' : World) : Prop := ∃ A' c' L', e = .returned (.slice A' L'.length c') ∧ StrsAt w' A' L' ∧ L'.length ≤ m + t.size ∧ (op = 4 → (0 < L'.length ↔ 0 < m ∨ hasNext t = true)) ∧ Below w.heap.size w w'
theorem hasNextL_take : ∀ {l : List Tm} {k : Nat} {t : Tm}, l[k]? = some t → hasNextL (l.take (k + 1)) = (hasNextL (l.take k) || hasNext t)
  | x :: r, 0, t, h => by
    simp at h
    subst h
    simp [hasNextL]
  | x :: r, k + 1, t, h => by
    have := hasNextL_take (l := r) (k := k) (by simpa using h)
    simp only [List.take_succ_cons, hasNextL, this, Bool.or_assoc]
theorem hasNext_eq (t : Tm) : hasNext t = (decide (t.op = 4) || hasNextL t.kids) := by cases t; rw [hasNext]; rfl



/-- What Names leaves: whether the second row is empty. -/
def NextQ (t : Tm) (w : World) (e : Ending) (w' : World) : Prop := ∃ (v1 : Value) (A2 : Option Addr) (n2 c2 : Nat), e = .returned (.tuple #[v1, .slice A2 n2 c2]) ∧ (n2 = 0 ↔ hasNext t = false) ∧ Below w.heap.size w w'
theorem keep_step {w1 W W' : World} (h : Below w1.heap.size w1 W) (hb : Below W.heap.size W W') : Below w1.heap.size w1 W' := h.trans (hb.mono h.size)
theorem keep_cells {w1 W : World} {b : Nat} (h : Below w1.heap.size w1 W) (hb : b < w1.heap.size) : ∀ o, W.cell? ⟨b, o, none⟩ = w1.cell? ⟨b, o, none⟩ := fun o => h.cell (p := ⟨b, o, none⟩) hb
theorem keep_two {w1 W W' : World} {b : Nat} (h : Below w1.heap.size w1 W) (hb : Below W.heap.size W W') (hs : b < w1.heap.size) : (∀ o, W'.cell? ⟨b, o, none⟩ = w1.cell? ⟨b, o, none⟩) ∧ Below w1.heap.size w1 W' := ⟨keep_cells (keep_step h hb) hs, keep_step h hb⟩
end Go.Proofs.YtnbphgeepnknlaaDoor
