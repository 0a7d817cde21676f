/- Walk: the next token at any place. -/
import Derived.Test.YtcjblbpkjegmiaaDoorLex6
namespace Go.Proofs.YtcjblbpkjegmiaaDoor
open Go.RowKit
set_option linter.unusedVariables false

/-- The next token at any place. -/
def nextAt (l : Bs) (at_ : Int) : Tok × Int × Int := if at_ < 0 ∨ (l.length : Int) < at_ then (noTok, 0, 2) else ((next l at_.toNat).1, ((next l at_.toNat).2.1 : Int), (next l at_.toNat).2.2)
def nextV (x : Tok × Int × Int) : Value := .tuple #[x.1.val, .int .i64 x.2.1, .int .i64 x.2.2]

theorem nextAt_out {l : Bs} {p : Int} (h : p < 0 ∨ (l.length : Int) < p) : nextAt l p = (noTok, 0, 2) := if_pos h
theorem nextAt_in {l : Bs} {p : Nat} (h : p ≤ l.length) : nextAt l p = ((next l p).1, ((next l p).2.1 : Int), (next l p).2.2) := by
  unfold nextAt
  rw [if_neg (by omega)]
  rfl

set_option maxHeartbeats 1000000 in
theorem next_any (s : ByteArray) (p : Int) (w : World) (hs : s.size ≤ maxLen) (hT : Tables w) :
    Calls Tryd.prog 78 #[.string s, .int .i64 p] w fun e w' => e = .returned (nextV (nextAt (bs s) p)) ∧ Below w.heap.size w w' := by
  by_cases ho : p < 0 ∨ ((bs s).length : Int) < p
  · rw [nextAt_out ho]
    rw [bs_length] at ho
    have hs' := hs
    unfold maxLen at hs'
    clear hT
    by_cases h0 : p < 0
    · clear ho
      go_enter Tryd.func78, Tryd.ntmps78
      go_wp2
      refine wp_scope_again 0 (fun _ _ => False) (fun _ _ => 0) rfl (fun _ _ h => h.elim) (fun _ => ?_)
      go_wp2
      simp only [Exit.jump]
      refine bodyPost_ret (next_results _ _ w.heap.size _ _ _ _ _ _ rfl rfl rfl (fun o ho => World.cell?_alloc_at _ _ _ _ rfl)) rfl ⟨?_, ?_⟩
      · rfl
      · exact (Below.refl _ _).alloc (Nat.le_refl _) _
    · have h1 : (s.size : Int) < p := by omega
      clear ho
      go_enter Tryd.func78, Tryd.ntmps78
      go_wp2
      refine wp_scope_again 0 (fun _ _ => False) (fun _ _ => 0) rfl (fun _ _ h => h.elim) (fun _ => ?_)
      go_wp2
      simp only [Exit.jump]
      refine bodyPost_ret (next_results _ _ w.heap.size _ _ _ _ _ _ rfl rfl rfl (fun o ho => World.cell?_alloc_at _ _ _ _ rfl)) rfl ⟨?_, ?_⟩
      · rfl
      · exact (Below.refl _ _).alloc (Nat.le_refl _) _
  · obtain ⟨n, rfl⟩ : ∃ n : Nat, p = n := ⟨p.toNat, by omega⟩
    rw [nextAt_in (by omega)]
    exact next_in s n n w (Lib.hid rfl) hs (by rw [bs_length] at ho; omega) hT
end Go.Proofs.YtcjblbpkjegmiaaDoor
