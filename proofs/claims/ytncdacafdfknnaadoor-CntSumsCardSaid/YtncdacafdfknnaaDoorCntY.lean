/- Appends of bytes onto a row of the call's own. -/
import Derived.Test.YtncdacafdfknnaaDoorCntX
import Derived.Laws.BytesArg
namespace Go.Proofs.YtncdacafdfknnaaDoor
open Go.RowKit
set_option linter.unusedVariables false

def bv (l : List Nat) : List Value := l.map fun (d : Nat) => Value.int .u8 (d : Int)
theorem bv_length (l : List Nat) : (bv l).length = l.length := by simp [bv]
theorem bv_append (l m : List Nat) : bv (l ++ m) = bv l ++ bv m := by simp [bv]
theorem infoU8 : (Tryd.prog.info? 5).map (fun i => (i.zero, i.size, i.bytes)) = some (some (.int .u8 0), 1, 1) := by kernel_rfl

theorem wpList_append_byte {ops : Array Oper} {rest : List Oper} {o : Oper} {a : Act} {Q : Exit → Act → World → Prop} {w : World} (hgd : o.guard = none) (s x : Operand) (t : TypeId)
    (ho : o.op = .call { callee := .builtin .append, args := #[s, x], argTypes := #[t, t] }) (ht : Tryd.prog.underlying t = some (.slice 5))
    (base : Nat) (v : Value) (n : Nat) (xs : List Nat) (hs : a.eval s = v) (hown : w.ownsRow base 5 1 v n (bv xs)) (g c : Nat) (d : Nat) (hx : a.eval x = .slice (some ⟨g, 0, none⟩) 1 c) (hcell : w.cell? ⟨g, 0, none⟩ = some (.int .u8 (d : Int)))
    (hb : n ≤ 10000000) (hbase : base ≤ w.heap.size)
    (h : ∀ v' w', w'.ownsRow base 5 1 v' (n + 1) (bv (xs ++ [d])) → w.grownBy w' v.ownBlock → wpList Tryd.prog ops Q rest (a.put o.dst v') w') : wpList Tryd.prog ops Q (o :: rest) a w := by
  obtain ⟨i0, hi, hz0, hz1, hz2⟩ := info_parts infoU8
  refine wpList_plain hgd fun K hK => ?_
  obtain ⟨v', w', hr, h2, h3, _⟩ := run_append_own (P := Tryd.prog) w base t o.type 5 i0 (.int .u8 0) 1 1 ht hi hz0 hz1 hz2 rfl (by decide) v n (bv xs) hown ⟨g, 0, none⟩ 1 c (bv [d]) rfl (fun j y hy => by
    cases j with
    | zero => simp [bv] at hy; subst hy; exact hcell
    | succ j => simp [bv] at hy) (fun u hu => by simp [bv] at hu; subst hu; rfl) (by unfold maxLen; omega) (by omega) hbase
  unfold Oper.wp execOp
  simp only [ho, resolve, invoke, builtin, Sem.run_bind, Sem.run_pure, Result.andThen_ok, List.map_toArray, List.map_cons, List.map_nil, hs, hx, hr]
  rw [← bv_append] at h2
  exact hK _ _ (h v' w' h2 h3)

/-- string(..) of a row of bytes of the call's own. -/
theorem string_of_own {w : World} {base : Nat} {v : Value} {n : Nat} {xs : List Nat} (h : w.ownsRow base 5 1 v n (bv xs)) (src dst : TypeId) (hs : Tryd.prog.underlying src = some (.slice 5)) (hd : Tryd.prog.underlying dst = some .string) :
    (convert src dst v).run Tryd.prog w = .ok (.string (strOfNums (xs.map fun (d : Nat) => (d : Int)))) w := by
  have hlen : n = xs.length := by have := h.1; rw [bv_length] at this; omega
  rcases h.2 with ⟨rfl, hn⟩ | ⟨g, cap, cur, rfl, hb, hg, hcap, hcm, _, _⟩
  · have : xs = [] := List.eq_nil_of_length_eq_zero (by omega)
    subst this
    exact run_convert_bytes_nil w src 5 hs Tryd.underlying5 0 0 dst hd
  · refine run_convert_bytes_arg w src 5 hs Tryd.underlying5 g 0 n cap _ (by rw [List.length_map, hlen]) (fun i hi => ?_) dst hd
    have hx : (bv xs)[i]? = some (.int .u8 ((xs[i]'(by omega) : Nat) : Int)) := by
      unfold bv
      rw [List.getElem?_map, List.getElem?_eq_getElem (by omega)]; rfl
    have := h.cells (g := g) rfl i _ hx
    have hadd : ((⟨g, 0, none⟩ : Addr).add i) = ⟨g, 0 + i, none⟩ := by unfold Addr.add; split <;> simp_all
    rw [hadd] at this
    rw [this]
    simp [List.getD, List.getElem?_map, List.getElem?_eq_getElem (show i < xs.length by omega)]
end Go.Proofs.YtncdacafdfknnaaDoor
