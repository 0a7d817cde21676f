/- The program shows the terms and formulas of the example (slim Show). -/
import Derived.Test.YtkhoeoilamddaaaGreatDoorWMwF
import Derived.Test.YtkhoeoilamddaaaGreatDoorVFrmEs
namespace Go.Proofs.YtkhoeoilamddaaaGreatDoor
open Go.RowKit
set_option linter.unusedVariables false
set_option maxRecDepth 100000
theorem ex34_all:ShAll exM:=⟨(fun d h=>by simp [exM] at h),(fun d h=>by simp [exM] at h),(fun d h=>by simp [exM] at h),
 (fun d h A c W hV hT=>by
   have h:d=⟨⟨#[110]⟩,tmNum 0⟩:=by simpa [exM] using h
   subst h
   exact tshow_any (tmNum 0) A c W (by kernel_rfl) hV (of_decide_eq_true (by kernel_rfl)) hT),
 (fun d h=>by simp [exM] at h),(fun d h=>by simp [exM] at h),
 (fun d h Ae ce A c W hV hT=>by
   have h:d=⟨⟨#[115]⟩,fmOf 7 [.mk 1 (tmOf 10 [tmName 3 [110],tmNum 1]) []]⟩:=by simpa [exM] using h
   subst h
   exact fshow_any (fmOf 7 [.mk 1 (tmOf 10 [tmName 3 [110],tmNum 1]) []]) Ae ce A c W (by kernel_rfl) (of_decide_eq_true (by kernel_rfl)) hV hT)⟩
end Go.Proofs.YtkhoeoilamddaaaGreatDoor
