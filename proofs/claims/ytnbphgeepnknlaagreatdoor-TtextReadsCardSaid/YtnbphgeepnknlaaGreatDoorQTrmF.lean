/- Walks: ttext.ruleOf, asks, signOf. -/
import Derived.Test.YtnbphgeepnknlaaGreatDoorQTrmE
namespace Go.Proofs.YtnbphgeepnknlaaGreatDoor
open Go.RowKit
set_option linter.unusedVariables false

set_option maxHeartbeats 2000000 in
theorem ruleOf_any (op : Int) (w : World) :
 Calls Tryz.prog 110 #[.int .i64 op] w fun e w' => e = .returned (.int .i64 (ruleOf op : Nat)) ∧ w = w' := by
 obtain ⟨r, hr⟩ : ∃ r, r = ruleOf op := ⟨_, rfl⟩
 rw [← hr]
 have HR := Lib.hid hr
 clear hr
 go_enter Tryz.func110, Tryz.ntmps110
 go_wp2
 all_goals
  go_ret
  rw [HR.out]
  refine ⟨?_, rfl⟩
  simp_all [ruleOf]

set_option maxHeartbeats 4000000 in
theorem asks_any (op : Int) (i : Nat) (w : World) (hi : i ≤ 1000000) (hi2 : op = 8 → i ≤ 2) :
 Calls Tryz.prog 113 #[.int .i64 op, .int .i64 (i : Nat)] w fun e w' => e = .returned (.int .i64 (asksN op i : Nat)) ∧ w = w' := by
 obtain ⟨r, hr⟩ : ∃ r, r = asksN op i := ⟨_, rfl⟩
 rw [← hr]
 have HR := Lib.hid hr
 have HI2 := Lib.hid hi2
 clear hr hi2
 go_enter Tryz.func113, Tryz.ntmps113
 go_wp2
 all_goals
  go_ret
  rw [HR.out]
  have hi2 := HI2.out
  refine ⟨?_, rfl⟩
  first
   | (simp_all [asksN]; done)
   | (simp_all [asksN]; omega)

set_option maxHeartbeats 4000000 in
theorem signOf_any (op : Int) (w : World) :
 Calls Tryz.prog 112 #[.int .i64 op] w fun e w' => e = .returned (.string ⟨(signB op).toArray⟩) ∧ w = w' := by
 obtain ⟨r, hr⟩ : ∃ r, r = signB op := ⟨_, rfl⟩
 rw [← hr]
 have HR := Lib.hid hr
 clear hr
 go_enter Tryz.func112, Tryz.ntmps112
 go_wp2
 all_goals
  go_ret
  rw [HR.out]
  refine ⟨?_, rfl⟩
  simp_all [signB]
end Go.Proofs.YtnbphgeepnknlaaGreatDoor
