/- Walks of memo. -/
import Derived.Test.YtlcikbegpkaflaaRows
import Derived.WalkKit
import Derived.WalkSpells
import Derived.WalkLawsBesides
import Derived.OpenShut
import Derived.Deep.QuietTactic
import Derived.BigQuiet
import Derived.Lib.Hide
import Derived.Handy
namespace Go.Proofs.Ytlcikbegpkaflaa
open Go.RowKit
set_option linter.unusedVariables false

def mix (n e : Int) : Int := bits BinOp.xor IntKind.u64 (IntKind.u64.wrap (bits BinOp.xor IntKind.u64 n (IntKind.u64.wrap e) * 11400714819323198485)) (IntKind.u64.wrap (bits BinOp.xor IntKind.u64 n (IntKind.u64.wrap e) * 11400714819323198485) / 536870912)
def hash (op a b c : Int) : Int := mix (mix (mix (IntKind.u64.wrap op) a) b) c
theorem hash_range (op a b c : Int) : 0 ≤ hash op a b c ∧ hash op a b c ≤ 18446744073709551615 := by
  have := bounds_u64 (wf_bits .xor .u64 (IntKind.u64.wrap (bits BinOp.xor IntKind.u64 (mix (mix (IntKind.u64.wrap op) a) b) (IntKind.u64.wrap c) * 11400714819323198485)) (IntKind.u64.wrap (bits BinOp.xor IntKind.u64 (mix (mix (IntKind.u64.wrap op) a) b) (IntKind.u64.wrap c) * 11400714819323198485) / 536870912))
  exact this
def slotOf (n : Nat) (op a b c : Int) : Nat := (hash op a b c).toNat % n
theorem slotOf_lt {n : Nat} (h : 0 < n) (op a b c : Int) : slotOf n op a b c < n := Nat.mod_lt _ h

set_option maxHeartbeats 400000 in
theorem place_any (mb eb : Nat) (n : Nat) (op a b c : Int) (w : World) (hn : 0 < n) (hn' : n ≤ 65536) (hmb : mb < w.heap.size)
   (h1 : w.cell? ⟨mb, 1, none⟩ = some (.slice (some ⟨eb, 0, none⟩) n n)) :
    Calls Try.prog 20 #[.pointer (some ⟨mb, 0, none⟩), .agg #[.int .i64 op, .int .i64 a, .int .i64 b, .int .i64 c]] w fun e w' => e = .returned (.pointer (some ⟨eb, 6 * slotOf n op a b c, none⟩)) ∧ Below w.heap.size w w' := by
  have i0 : ∀ w, (Instr.index 49 (.agg #[.int .i64 a, .int .i64 b, .int .i64 c]) (.int .i64 0)).run Try.prog w = .ok (.int .i64 a) w := fun _ => by kernel_rfl
  have i1 : ∀ w, (Instr.index 49 (.agg #[.int .i64 a, .int .i64 b, .int .i64 c]) (.int .i64 1)).run Try.prog w = .ok (.int .i64 b) w := fun _ => by kernel_rfl
  have i2 : ∀ w, (Instr.index 49 (.agg #[.int .i64 a, .int .i64 b, .int .i64 c]) (.int .i64 2)).run Try.prog w = .ok (.int .i64 c) w := fun _ => by kernel_rfl
  obtain ⟨h, hh⟩ : ∃ h, h = hash op a b c := ⟨_, rfl⟩
  have hr := hash_range op a b c
  rw [← hh] at hr
  have hx0 : 0 ≤ h % (n : Int) := Int.emod_nonneg _ (by omega)
  have hx1 : h % (n : Int) < (n : Int) := Int.emod_lt_of_pos _ (by omega)
  have hoff : (h % (n : Int)).toNat * 6 = 6 * slotOf n op a b c := by
    unfold slotOf; rw [← hh, Int.toNat_emod hr.1 (by omega), Int.toNat_natCast, Nat.mul_comm]
  have H := Lib.hid hh
  have HO := Lib.hid hoff
  clear hh hoff
  have hw : IntKind.u64.wrap (n : Int) = n := by simp [IntKind.wrap, IntKind.bits, IntKind.signed]; omega
  have hn0 : ((n : Int) == 0) = false := by simp; omega
  go_enter Try.func20, Try.ntmps20
  go_wp2
  refine wp_loop_rounds 4 ?_
  rw [rounds_succ]
  go_wp2
  rw [rounds_succ]
  go_wp2
  rw [rounds_succ]
  go_wp2
  rw [rounds_succ]
  go_wp2
  generalize hg : bits BinOp.xor IntKind.u64 (IntKind.u64.wrap (bits BinOp.xor IntKind.u64 (bits BinOp.xor IntKind.u64 _ _) (IntKind.u64.wrap c) * 11400714819323198485)) _ = g
  have hg' : g = h := by rw [H.out, ← hg]; simp only [hash, mix]
  clear hg
  subst hg'
  go_quiet (fail)
  go_wp2
  go_ret
  exact ⟨congrArg (fun k => Ending.returned (.pointer (some ⟨eb, k, none⟩))) HO.out, below_drewN ((Below.refl _ _).alloc (Nat.le_refl _) _) _⟩
attribute [irreducible] slotOf hash mix
end Go.Proofs.Ytlcikbegpkaflaa
