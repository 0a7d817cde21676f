/- Appends of whole numbers onto a row of the call's own; walks of the reference: cut, at, Of. -/
import Derived.Test.YtncdacafdfknnaaDoorCntJ
namespace Go.Proofs.YtncdacafdfknnaaDoor
open Go.RowKit
set_option linter.unusedVariables false

def iv (l : List Nat) : List Value := l.map fun (d : Nat) => Value.int .i64 (d : Int)
theorem iv_length (l : List Nat) : (iv l).length = l.length := by simp [iv]
theorem iv_append (l m : List Nat) : iv (l ++ m) = iv l ++ iv m := by simp [iv]

theorem append_types (t u ty e e' : TypeId) (ht : Tryd.prog.underlying t = some (.slice e)) (hu : Tryd.prog.underlying u = some (.slice e')) (v x : Value) (w : World) (hv : ∃ B k c, v = .slice B k c) :
    (Builtin.append_ #[t, u] ty #[v, x]).run Tryd.prog w = (Builtin.append_ #[t, t] ty #[v, x]).run Tryd.prog w := by
  obtain ⟨B, k, c, rfl⟩ := hv
  simp [Builtin.append_, run_underlying ht, run_underlying hu]
theorem own_slice {w : World} {base : Nat} {e : TypeId} {size n : Nat} {v : Value} {xs : List Value} (h : w.ownsRow base e size v n xs) : ∃ B k c, v = .slice B k c := by
  rcases h.2 with ⟨rfl, _⟩ | ⟨g, cap, cur, rfl, _⟩
  · exact ⟨_, _, _, rfl⟩
  · exact ⟨_, _, _, rfl⟩

theorem infoInt : (Tryd.prog.info? 3).map (fun i => (i.zero, i.size, i.bytes)) = some (some (.int .i64 0), 1, 8) := by kernel_rfl

theorem wpList_append_dat {ops : Array Oper} {rest : List Oper} {o : Oper} {a : Act} {Q : Exit → Act → World → Prop} {w : World} (hgd : o.guard = none) (s x : Operand) (t u : TypeId)
    (ho : o.op = .call { callee := .builtin .append, args := #[s, x], argTypes := #[t, u] }) (ht : Tryd.prog.underlying t = some (.slice 3)) (hu : Tryd.prog.underlying u = some (.slice 3))
    (base : Nat) (v : Value) (n : Nat) (xs : List Nat) (hs : a.eval s = v) (hown : w.ownsRow base 3 1 v n (iv xs)) (A : Option Addr) (m c : Nat) (l : List Nat) (hx : a.eval x = .slice A m c) (hm : m = l.length) (hA : DAt w A .i64 l) (hnil : A = none → c = 0)
    (hb : n + m ≤ 10000000) (hbase : base ≤ w.heap.size)
    (h : ∀ v' w', w'.ownsRow base 3 1 v' (n + m) (iv (xs ++ l)) → w.grownBy w' v.ownBlock → wpList Tryd.prog ops Q rest (a.put o.dst v') w') : wpList Tryd.prog ops Q (o :: rest) a w := by
  obtain ⟨i0, hi, hz0, hz1, hz2⟩ := info_parts infoInt
  refine wpList_plain hgd fun K hK => ?_
  have key : ∃ v' w', (Builtin.append_ #[t, u] o.type #[v, .slice A m c]).run Tryd.prog w = .ok v' w' ∧ w'.ownsRow base 3 1 v' (n + m) (iv (xs ++ l)) ∧ w.grownBy w' v.ownBlock := by
    have hall : ∀ u ∈ iv l, u.oneCell' = true := fun u hu => by
      obtain ⟨y, _, rfl⟩ := List.mem_map.1 hu
      rfl
    cases A with
    | none =>
      have hc := hnil rfl
      subst hc
      have hl : l = [] := by
        rcases hA with h9 | ⟨g, off, h9, _⟩
        · exact h9
        · cases h9
      subst hl
      simp at hm
      subst hm
      refine ⟨v, w, ?_, by rw [List.append_nil]; exact hown, ⟨rfl, rfl, rfl, Nat.le_refl _, fun _ _ _ => rfl⟩⟩
      rw [append_types t u o.type _ _ ht hu _ _ _ (own_slice hown)]
      exact run_append_owned_none (P := Tryd.prog) (w := w) base t o.type _ i0 1 ht hi v n (iv xs) hown
    | some ad =>
      obtain ⟨v', w', hr, h2, h3, _⟩ := run_append_own (P := Tryd.prog) w base t o.type 3 i0 (.int .i64 0) 1 8 ht hi hz0 hz1 hz2 rfl (by decide) v n (iv xs) hown ad m c (iv l) (by rw [iv_length, hm, Nat.mul_one]) (fun j y hy => by
        rcases hA with h9 | ⟨g, off, h9, hg, hcell⟩
        · subst h9; simp [iv] at hy
        · injection h9 with h9
          subst h9
          unfold iv at hy
          rw [List.getElem?_map] at hy
          cases hj : l[j]? with
          | none => rw [hj] at hy; cases hy
          | some z =>
            rw [hj] at hy
            injection hy with hy
            rw [← hy]
            have := hcell j z hj
            unfold Addr.add
            split
            · rename_i h0
              subst h0
              simpa using this
            · simpa using this) hall (by unfold maxLen; omega) (by omega) hbase
      refine ⟨v', w', ?_, by rw [iv_append]; exact h2, h3⟩
      rw [append_types t u o.type _ _ ht hu _ _ _ (own_slice hown)]
      exact hr
  obtain ⟨v', w', hr, h2, h3⟩ := key
  unfold Oper.wp execOp
  simp only [ho, resolve, invoke, builtin, Sem.run_bind, Sem.run_pure, Result.andThen_ok, List.map_toArray, List.map_cons, List.map_nil, hs, hx, hr]
  exact hK _ _ (h v' w' h2 h3)

/-- A row of the call's own, as numbers that lie there. -/
theorem dat_of_own {w : World} {base : Nat} {v : Value} {l : List Nat} (h : w.ownsRow base 3 1 v l.length (iv l)) : ∃ A c, v = .slice A l.length c ∧ (A = none → c = 0) ∧ l.length ≤ c ∧ c ≤ maxLen ∧ DAt w A .i64 l := by
  rcases h.2 with ⟨rfl, hn⟩ | ⟨g, cap, cur, rfl, hb, hg, hcap, hcm, _, _⟩
  · exact ⟨none, 0, by rw [hn], fun _ => rfl, by omega, Nat.zero_le _, .inl (List.eq_nil_of_length_eq_zero hn)⟩
  · refine ⟨_, _, rfl, (fun h => by cases h), hcap, hcm, .inr ⟨g, 0, rfl, (h.lt g rfl).2, fun j z hz => ?_⟩⟩
    have := h.cells (g := g) rfl j (.int .i64 (z : Nat)) (by unfold iv; rw [List.getElem?_map, hz]; rfl)
    unfold Addr.add at this
    split at this
    · rename_i h0
      subst h0
      simpa using this
    · simpa using this

set_option maxHeartbeats 2000000 in
theorem cut_any (A : Option Addr) (c : Nat) (l : List Nat) (w : World) (hl : l.length ≤ 1000000) (hc : l.length ≤ c) (hc2 : c ≤ maxLen) (hnil : A = none → c = 0) (hA : DAt w A .i64 l) (hD : Dig 10 l) :
    Calls Tryd.prog 35 #[.slice A l.length c] w fun e w' => ∃ v, e = .returned v ∧ w'.ownsRow w.heap.size 3 1 v (digs 10 (val 10 l)).length (iv (digs 10 (val 10 l))) ∧ Below w.heap.size w w' := by
  unfold maxLen at hc2
  have HA := Lib.hid hA
  have HD := Lib.hid hD
  have HNIL := Lib.hid hnil
  clear hA hD hnil
  obtain ⟨n, hn⟩ : ∃ n, n = l.length := ⟨_, rfl⟩
  rw [← hn] at hl hc ⊢
  have HN := Lib.hid hn
  clear hn
  go_enter Tryd.func35, Tryd.ntmps35
  go_wp2
  go_loop [3] (fun v => ∃ k : Nat, k ≤ n ∧ v = .int .i64 k ∧ val 10 l = val 10 (l.take k)) (fun v => (intOf v).toNat)
  case atStart => exact ⟨n, Nat.le_refl _, rfl, by rw [List.take_of_length_le (by rw [HN.out]; exact Nat.le_refl _)]⟩
  case round =>
    obtain ⟨k, hk, rfl, hv⟩ := hrel
    have HV := Lib.hid hv
    clear hv
    have fin : ∀ (hdk : digs 10 (val 10 l) = l.take k), Hid (digs 10 (val 10 l) = l.take k ∧ (digs 10 (val 10 l)).length = k) := fun hdk => ⟨hdk, by rw [hdk, List.length_take]; have := HN.out; omega⟩
    by_cases h0 : 0 < k
    · obtain ⟨d, hd⟩ := getE (l := l) (k := k - 1) (by have := HN.out; omega)
      rcases HA.out with h9 | ⟨b, off, rfl, hb, hcell⟩
      · rw [h9] at hd; simp at hd
      have x0 := hcell _ _ hd
      have hts := take_snoc hd
      rw [show k - 1 + 1 = k by omega] at hts
      have HTS := Lib.hid hts
      have HDD := Lib.hid hd
      clear hcell hts hd
      have h0' : (0 : Int) < (k : Int) := by omega
      have hk1 : (0 : Int) ≤ (k : Int) - 1 := by omega
      have hk2 : (k : Int) - 1 < (n : Int) := by omega
      by_cases hd0 : d = 0
      · have HV2 := Lib.hid (show val 10 l = val 10 (l.take (k - 1)) from by rw [HV.out, HTS.out, hd0, val_snoc]; simp)
        have hd0' : ((d : Int) == 0) = true := by simp; exact hd0
        clear hd0 fin
        go_wp2
        go_round
        case rel => exact ⟨k - 1, by omega, by go_num, HV2.out⟩
        case measure => simp [intOf]; omega
      · have hd0' : ((d : Int) == 0) = false := by simp; exact hd0
        have hr : digs 10 (val 10 l) = l.take k := by
          rw [HV.out]
          have hlen : (l.take k).length = k := by rw [List.length_take]; have := HN.out; omega
          refine digs_val (by decide) (norm_of_last (d := d) ?_ hd0) (HD.out.take k)
          rw [hlen, List.getElem?_take, if_pos (by omega)]
          exact HDD.out
        have FIN := fin hr
        clear hr hd0 fin
        have hkc : (k : Int) ≤ (c : Int) := by omega
        have HAT := Lib.hid ((HA.out.take k).belowB ((Below.refl w.heap.size w).alloc (Nat.le_refl _) (.cells #[] 3)) rfl)
        have hlt : k = (l.take k).length := by rw [List.length_take]; have := HN.out; omega
        have HLT := Lib.hid hlt
        clear hlt
        go_wp2_with (with_reducible refine wpList_append_dat rfl _ _ _ _ rfl Tryd.underlying28 Tryd.underlying27 w.heap.size (.slice (some ⟨w.heap.size, 0, none⟩) 0 0) 0 [] rfl (World.ownsRow_made w #[] 0 (Nat.le_refl _) (Nat.zero_le _) rfl) _ k c (l.take k) rfl HLT.out HAT.out (fun h => by cases h) (by omega) (by simp) ?_; intro v' w1 hown1 hgrow1)
        go_ret
        rw [FIN.out.2, FIN.out.1]
        refine ⟨_, rfl, ?_, ((Below.refl _ _).alloc (Nat.le_refl _) _).grown hgrow1 (by simp) (fun q hq => by simp [Value.ownBlock] at hq; omega)⟩
        have h9 := hown1
        rw [Nat.zero_add, List.nil_append] at h9
        exact h9
    · have hk0 : k = 0 := by omega
      subst hk0
      have FIN := fin (by rw [HV.out]; rfl)
      have HAT := Lib.hid ((HA.out.take 0).belowB ((Below.refl w.heap.size w).alloc (Nat.le_refl _) (.cells #[] 3)) rfl)
      clear fin
      go_wp2_with (with_reducible refine wpList_append_dat rfl _ _ _ _ rfl Tryd.underlying28 Tryd.underlying27 w.heap.size (.slice (some ⟨w.heap.size, 0, none⟩) 0 0) 0 [] rfl (World.ownsRow_made w #[] 0 (Nat.le_refl _) (Nat.zero_le _) rfl) A 0 c (l.take 0) rfl (by simp) HAT.out HNIL.out (by omega) (by simp) ?_; intro v' w1 hown1 hgrow1)
      go_ret
      rw [FIN.out.2, FIN.out.1]
      refine ⟨_, rfl, ?_, ((Below.refl _ _).alloc (Nat.le_refl _) _).grown hgrow1 (by simp) (fun q hq => by simp [Value.ownBlock] at hq; omega)⟩
      have h9 := hown1
      rw [Nat.zero_add, List.nil_append] at h9
      exact h9

theorem at_any (A : Option Addr) (c : Nat) (l : List Nat) (i : Nat) (w : World) (hl : l.length ≤ 10000000) (hi : i ≤ 10000000) (hA : DAt w A .i64 l) :
    Calls Tryd.prog 38 #[.slice A l.length c, .int .i64 (i : Nat)] w fun e w' => e = .returned (.int .i64 (l.getD i 0 : Nat)) ∧ w = w' := by
  obtain ⟨n, hn⟩ : ∃ n, n = l.length := ⟨_, rfl⟩
  by_cases hin : i < l.length
  · obtain ⟨d, hd⟩ := getE hin
    have hv : l.getD i 0 = d := by simp [List.getD, hd]
    rcases hA with h9 | ⟨b, off, rfl, hb, hcell⟩
    · rw [h9] at hd; simp at hd
    have x0 := hcell _ _ hd
    rw [hv]
    rw [← hn] at hin hl ⊢
    clear hcell hd hv hn
    have h1 : (i : Int) < (n : Int) := by omega
    have h0 : (0 : Int) ≤ (i : Int) := by omega
    go_enter Tryd.func38, Tryd.ntmps38
    go_wp2
    go_ret
    exact ⟨rfl, rfl⟩
  · have hv : l.getD i 0 = 0 := by simp [List.getD, List.getElem?_eq_none (Nat.le_of_not_lt hin)]
    rw [hv]
    rw [← hn] at hin hl ⊢
    clear hA hv hn
    have h1 : ¬ (i : Int) < (n : Int) := by omega
    go_enter Tryd.func38, Tryd.ntmps38
    go_wp2
    go_ret
    exact ⟨rfl, rfl⟩
end Go.Proofs.YtncdacafdfknnaaDoor
