/- Appends inside a region that draws its order. -/
import Derived.Test.YtncdacafdfknnaaDoorCntU
import Derived.Deep.AppendLies
namespace Go.Proofs.YtncdacafdfknnaaDoor
open Go.RowKit
set_option linter.unusedVariables false

theorem run_append_dat {w : World} (t u ty : TypeId) (ht : Tryd.prog.underlying t = some (.slice 3)) (hu : Tryd.prog.underlying u = some (.slice 3))
    (base : Nat) (v : Value) (n : Nat) (xs : List Nat) (hown : w.ownsRow base 3 1 v n (iv xs)) (A : Option Addr) (m c : Nat) (l : List Nat) (hm : m = l.length) (hA : DAt w A .i64 l) (hnil : A = none → c = 0)
    (hb : n + m ≤ 10000000) (hbase : base ≤ w.heap.size) :
    ∃ v' w', (Builtin.append_ #[t, u] ty #[v, .slice A m c]).run Tryd.prog w = .ok v' w' ∧ w'.ownsRow base 3 1 v' (n + m) (iv (xs ++ l)) ∧ w.grownBy w' v.ownBlock := by
  obtain ⟨i0, hi, hz0, hz1, hz2⟩ := info_parts infoInt
  have hall : ∀ u ∈ iv l, u.oneCell' = true := fun u hu => by
    obtain ⟨y, _, rfl⟩ := List.mem_map.1 hu
    rfl
  cases A with
  | none =>
    have hc := hnil rfl
    subst hc
    have hl : l = [] := by
      rcases hA with h9 | ⟨g, off, h9, _⟩
      · exact h9
      · cases h9
    subst hl
    simp at hm
    subst hm
    refine ⟨v, w, ?_, by rw [List.append_nil]; exact hown, ⟨rfl, rfl, rfl, Nat.le_refl _, fun _ _ _ => rfl⟩⟩
    rw [append_types t u ty _ _ ht hu _ _ _ (own_slice hown)]
    exact run_append_owned_none (P := Tryd.prog) (w := w) base t ty _ i0 1 ht hi v n (iv xs) hown
  | some ad =>
    obtain ⟨v', w', hr, h2, h3, _⟩ := run_append_own (P := Tryd.prog) w base t ty 3 i0 (.int .i64 0) 1 8 ht hi hz0 hz1 hz2 rfl (by decide) v n (iv xs) hown ad m c (iv l) (by rw [iv_length, hm, Nat.mul_one]) (fun j y hy => by
      rcases hA with h9 | ⟨g, off, h9, hg, hcell⟩
      · subst h9; simp [iv] at hy
      · injection h9 with h9
        subst h9
        unfold iv at hy
        rw [List.getElem?_map] at hy
        cases hj : l[j]? with
        | none => rw [hj] at hy; cases hy
        | some z =>
          rw [hj] at hy
          injection hy with hy
          rw [← hy]
          have := hcell j z hj
          unfold Addr.add
          split
          · rename_i h0
            subst h0
            simpa using this
          · simpa using this) hall (by unfold maxLen; omega) (by omega) hbase
    refine ⟨v', w', ?_, by rw [iv_append]; exact h2, h3⟩
    rw [append_types t u ty _ _ ht hu _ _ _ (own_slice hown)]
    exact hr

theorem step_append_dat {w : World} {ops : Array Oper} {o : Oper} {a : Act} {K : Act → World → Prop} {Q : Exit → Act → World → Prop} {E : Prop} (hgd : o.guard = none) (s x : Operand) (t u : TypeId)
    (ho : o.op = .call { callee := .builtin .append, args := #[s, x], argTypes := #[t, u] }) (ht : Tryd.prog.underlying t = some (.slice 3)) (hu : Tryd.prog.underlying u = some (.slice 3))
    (base : Nat) (v : Value) (n : Nat) (xs : List Nat) (hs : a.eval s = v) (hown : w.ownsRow base 3 1 v n (iv xs)) (A : Option Addr) (m c : Nat) (l : List Nat) (hx : a.eval x = .slice A m c) (hm : m = l.length) (hA : DAt w A .i64 l) (hnil : A = none → c = 0)
    (hb : n + m ≤ 10000000) (hbase : base ≤ w.heap.size)
    (h : ∀ v' w', w'.ownsRow base 3 1 v' (n + m) (iv (xs ++ l)) → w.grownBy w' v.ownBlock → K (a.put o.dst v') w') :
    if Region.wanted o (yielded ops a.tmps) = true then Oper.wp Tryd.prog o a w K Q else E := by
  have hw : Region.wanted o (yielded ops a.tmps) = true := by simp [Region.wanted, hgd]
  rw [if_pos hw]
  obtain ⟨v', w', hr, h2, h3⟩ := run_append_dat t u o.type ht hu base v n xs hown A m c l hm hA hnil hb hbase
  unfold Oper.wp execOp
  simp only [ho, resolve, invoke, builtin, Sem.run_bind, Sem.run_pure, Result.andThen_ok, List.map_toArray, List.map_cons, List.map_nil, hs, hx, hr]
  exact h v' w' h2 h3
end Go.Proofs.YtncdacafdfknnaaDoor
