/- Plain words: formulas, their check. -/
import Derived.Test.YtnbphgeepnknlaaDoorQTrmP
namespace Go.Proofs.YtnbphgeepnknlaaDoor
set_option linter.unusedVariables false
set_option linter.unusedSectionVars false

inductive Fm where
  | mk (op : Int) (e : Tm) (kids : List Fm) : Fm
namespace Fm
def op : Fm → Int | mk o _ _ => o
def tm : Fm → Tm | mk _ t _ => t
def kids : Fm → List Fm | mk _ _ l => l
end Fm
mutual
def Fm.size : Fm → Nat
  | .mk _ _ l => 1 + Fm.sizeL l
def Fm.sizeL : List Fm → Nat
  | [] => 0
  | t :: r => t.size + Fm.sizeL r
end
theorem Fm.sizeL_mem : ∀ {l : List Fm} {t : Fm}, t ∈ l → t.size ≤ Fm.sizeL l
  | x :: r, t, h => by
    rcases List.mem_cons.1 h with rfl | h
    · rw [Fm.sizeL]; omega
    · have := Fm.sizeL_mem h
      rw [Fm.sizeL]; omega
mutual
/-- Whether a part refers to the next state. -/
def hasNext : Tm → Bool
  | .mk o _ _ l => decide (o = 4) || hasNextL l
def hasNextL : List Tm → Bool
  | [] => false
  | t :: r => hasNext t || hasNextL r
end
def fkids (op : Int) : Int :=
  if op = 1 then 0 else if op = 2 ∨ op = 6 ∨ op = 7 ∨ op = 8 ∨ op = 10 ∨ op = 11 ∨ op = 12 then 1 else if op = 3 ∨ op = 4 ∨ op = 5 ∨ op = 9 ∨ op = 13 then 2 else -1
def bareB (t : Tm) : Bool := decide (t.op = 0) && decide (t.num = 0) && decide (t.name.size = 0) && decide (t.kids.length = 0)
def ftermE (f : Fm) : Int := if f.op = 1 then (if f.tm.check = 0 then (if hasNext f.tm = true then 24 else 0) else f.tm.check) else 0
def fstepE (f : Fm) (d n : Nat) : Int :=
  if 64 < d then 17 else if fkids f.op < 0 then 11 else if ftermE f ≠ 0 then ftermE f
  else if (f.kids.length : Int) ≠ fkids f.op ∨ (f.op ≠ 1 ∧ bareB f.tm = false) then 3 else if 4096 < n + 1 then 4 else 0
section
variable {σ : Type} (step : σ → Fm → Nat → σ × Bool)
mutual
def eachF : Fm → Nat → σ → σ × Bool
  | .mk o e l, d, x => match step x (.mk o e l) d with
    | (y, true) => eachL l (d + 1) y
    | (y, false) => (y, false)
def eachL : List Fm → Nat → σ → σ × Bool
  | [], _, x => (x, true)
  | t :: r, d, x => match eachF t d x with
    | (y, true) => eachL r d y
    | (y, false) => (y, false)
end
end
theorem eachF_eq {σ : Type} (step : σ → Fm → Nat → σ × Bool) (t : Fm) (d : Nat) (x : σ) : eachF step t d x = if (step x t d).2 = true then eachL step t.kids (d + 1) (step x t d).1 else ((step x t d).1, false) := by
  cases t with
  | mk o e l =>
    rw [eachF]
    cases h : step x (.mk o e l) d with
    | mk y b => cases b <;> rfl
def fchkStep (x : Int × Nat) (f : Fm) (d : Nat) : (Int × Nat) × Bool := ((fstepE f d x.2, x.2 + 1), decide (fstepE f d x.2 = 0))
def Fm.check (f : Fm) : Int := (eachF fchkStep f 1 (0, 0)).1.1
mutual
def Fm.okT : Fm → Nat → Prop
  | .mk o e l, d => d ≤ 64 ∧ (∃ n, fstepE (.mk o e l) d n = 0) ∧ Fm.okL l (d + 1)
def Fm.okL : List Fm → Nat → Prop
  | [], _ => True
  | t :: r, d => t.okT d ∧ Fm.okL r d
end
mutual
theorem fchk_spec : ∀ (t : Fm) (d : Nat) (x : Int × Nat), ((eachF fchkStep t d x).2 = true → t.okT d ∧ (eachF fchkStep t d x).1 = (0, x.2 + t.size) ∧ x.2 + t.size ≤ 4096) ∧ ((eachF fchkStep t d x).2 = false → (eachF fchkStep t d x).1.1 ≠ 0)
  | .mk o e l, d, x => by
    rw [eachF_eq, Fm.okT, Fm.size]
    by_cases h0 : fstepE (.mk o e l) d x.2 = 0
    · have hs : fchkStep x (.mk o e l) d = ((0, x.2 + 1), true) := by unfold fchkStep; rw [h0]; rfl
      have h1 : d ≤ 64 ∧ x.2 + 1 ≤ 4096 := by
        unfold fstepE at h0
        by_cases a : 64 < d
        · rw [if_pos a] at h0; cases h0
        rw [if_neg a] at h0
        by_cases b : fkids (Fm.mk o e l).op < 0
        · rw [if_pos b] at h0; cases h0
        rw [if_neg b] at h0
        by_cases c : ftermE (Fm.mk o e l) ≠ 0
        · rw [if_pos c] at h0; exact absurd h0 c
        rw [if_neg c] at h0
        by_cases c2 : ((Fm.mk o e l).kids.length : Int) ≠ fkids (Fm.mk o e l).op ∨ ((Fm.mk o e l).op ≠ 1 ∧ bareB (Fm.mk o e l).tm = false)
        · rw [if_pos c2] at h0; cases h0
        rw [if_neg c2] at h0
        by_cases c3 : 4096 < x.2 + 1
        · rw [if_pos c3] at h0; cases h0
        omega
      have ih := fchkL_spec l (d + 1) (0, x.2 + 1) rfl (by simp only; omega)
      rw [hs]
      simp only [if_true, Fm.kids]
      refine ⟨fun h => ?_, fun h => ih.2 h⟩
      obtain ⟨i1, i2, i3⟩ := ih.1 h
      simp only at i2 i3
      exact ⟨⟨by omega, ⟨_, h0⟩, i1⟩, by rw [i2, Nat.add_assoc], by omega⟩
    · have hs : fchkStep x (.mk o e l) d = ((fstepE (.mk o e l) d x.2, x.2 + 1), false) := by unfold fchkStep; rw [decide_eq_false h0]
      rw [hs]
      exact ⟨(fun h => by cases h), fun _ => h0⟩
theorem fchkL_spec : ∀ (l : List Fm) (d : Nat) (x : Int × Nat), x.1 = 0 → x.2 ≤ 4096 → ((eachL fchkStep l d x).2 = true → Fm.okL l d ∧ (eachL fchkStep l d x).1 = (0, x.2 + Fm.sizeL l) ∧ x.2 + Fm.sizeL l ≤ 4096) ∧ ((eachL fchkStep l d x).2 = false → (eachL fchkStep l d x).1.1 ≠ 0)
  | [], d, x, h0, h1 => by
    rw [eachL, Fm.okL, Fm.sizeL]
    refine ⟨fun _ => ⟨trivial, by rw [← h0]; rfl, h1⟩, fun h => by cases h⟩
  | t :: r, d, x, h0, h1 => by
    have ih := fchk_spec t d x
    rw [eachL, Fm.okL, Fm.sizeL]
    cases hw : eachF fchkStep t d x with
    | mk y b =>
      rw [hw] at ih
      cases b with
      | false => exact ⟨(fun h => by cases h), fun _ => ih.2 rfl⟩
      | true =>
        obtain ⟨i1, i2, i3⟩ := ih.1 rfl
        simp only at i2
        subst i2
        have ih2 := fchkL_spec r d (0, x.2 + t.size) rfl i3
        refine ⟨fun h => ?_, fun h => ih2.2 h⟩
        obtain ⟨j1, j2, j3⟩ := ih2.1 h
        simp only at j2 j3
        exact ⟨⟨i1, j1⟩, by simp only; rw [j2, Nat.add_assoc], by omega⟩
end
theorem fcheck_ok {t : Fm} (h : t.check = 0) : t.okT 1 ∧ t.size ≤ 4096 := by
  have hs := fchk_spec t 1 (0, 0)
  unfold Fm.check at h
  cases hb : (eachF fchkStep t 1 (0, 0)).2 with
  | false => exact absurd h (hs.2 hb)
  | true =>
    obtain ⟨h1, _, h3⟩ := hs.1 hb
    exact ⟨h1, by simpa using h3⟩
theorem fokL_mem : ∀ {l : List Fm} {d : Nat} {t : Fm}, Fm.okL l d → t ∈ l → t.okT d
  | x :: r, d, t, h, hm => by
    rw [Fm.okL] at h
    rcases List.mem_cons.1 hm with rfl | hm
    · exact h.1
    · exact fokL_mem h.2 hm
theorem fstep_ok {f : Fm} {d n : Nat} (h0 : fstepE f d n = 0) : 0 ≤ fkids f.op ∧ (f.kids.length : Int) = fkids f.op ∧ (f.op = 1 → f.tm.check = 0 ∧ hasNext f.tm = false) := by
  unfold fstepE at h0
  by_cases a : 64 < d
  · rw [if_pos a] at h0; cases h0
  rw [if_neg a] at h0
  by_cases b : fkids f.op < 0
  · rw [if_pos b] at h0; cases h0
  rw [if_neg b] at h0
  by_cases c : ftermE f ≠ 0
  · rw [if_pos c] at h0; exact absurd h0 c
  rw [if_neg c] at h0
  by_cases c2 : (f.kids.length : Int) ≠ fkids f.op ∨ (f.op ≠ 1 ∧ bareB f.tm = false)
  · rw [if_pos c2] at h0; cases h0
  refine ⟨by omega, by omega, fun h1 => ?_⟩
  have c' : ftermE f = 0 := by omega
  unfold ftermE at c'
  rw [if_pos h1] at c'
  by_cases hc : f.tm.check = 0
  · rw [if_pos hc] at c'
    refine ⟨hc, ?_⟩
    cases hn : hasNext f.tm with
    | false => rfl
    | true => rw [hn] at c'; cases c'
  · rw [if_neg hc] at c'; exact absurd c' hc
theorem fokT_open {t : Fm} {d : Nat} (h : t.okT d) : d ≤ 64 ∧ (0 ≤ fkids t.op ∧ (t.kids.length : Int) = fkids t.op ∧ (t.op = 1 → t.tm.check = 0 ∧ hasNext t.tm = false)) ∧ ∀ k ∈ t.kids, k.okT (d + 1) := by
  cases t with
  | mk o e l =>
    rw [Fm.okT] at h
    obtain ⟨h1, ⟨n, h2⟩, h3⟩ := h
    exact ⟨h1, fstep_ok h2, fun k hk => fokL_mem h3 hk⟩
end Go.Proofs.YtnbphgeepnknlaaDoor
