/- Walk: edge.Meet, edge.Ite. -/
import Derived.Test.YtpijlhlpejlhhaaGreatVMnA
namespace Go.Proofs.YtpijlhlpejlhhaaGreat
open Go.RowKit
set_option linter.unusedVariables false
set_option maxRecDepth 100000
set_option maxHeartbeats 4000000
/-- What Meet hands back. -/
def j_(f g:Nat):Value:=match Bd.meet f g with
 |some r=>.tuple #[.int .i64 (r:Nat),.bool true]
 |none=>.tuple #[.int .i64 0,.bool false]
section
variable {f g:Nat}
theorem Kj(h:f=1∨g=1∨f=Bd.neg g):j_ f g=.tuple #[.int .i64 1,.bool true]:=by unfold j_ Bd.meet;rw[if_pos h];rfl
theorem QV(h:¬(f=1∨g=1∨f=Bd.neg g))(h2:f=0∨f=g):j_ f g=.tuple #[.int .i64 (g:Nat),.bool true]:=by unfold j_ Bd.meet;rw[if_neg h,if_pos h2]
theorem QW(h:¬(f=1∨g=1∨f=Bd.neg g))(h2:¬(f=0∨f=g))(h3:g=0):j_ f g=.tuple #[.int .i64 (f:Nat),.bool true]:=by unfold j_ Bd.meet;rw[if_neg h,if_neg h2,if_pos h3]
theorem NY(h:¬(f=1∨g=1∨f=Bd.neg g))(h2:¬(f=0∨f=g))(h3:¬g=0):j_ f g=.tuple #[.int .i64 0,.bool false]:=by unfold j_ Bd.meet;rw[if_neg h,if_neg h2,if_neg h3]
end
theorem Kk(f g:Nat)(w:World)(hf:f<4611686018427387904)(hg:g<4611686018427387904):Calls Tryz.prog 116 #[.int .i64 (f:Nat),.int .i64 (g:Nat)] w fun x w'=>x=.returned (j_ f g)∧w'=w:=by
 have c:=qN g w hg;obtain⟨X,hX⟩:∃X,X=j_ f g:=⟨_,rfl⟩;rw[←hX];have HX:=Lib.hid hX;clear hX;go_in
 go_wp2_with (go_at_call 133;refine c.mono ?_;rintro x w' ⟨rfl,rfl⟩)
 all_goals go_ret2
 all_goals (clear c;refine⟨?_,rfl⟩;simp only[beq_iff_eq,beq_eq_false_iff_ne,ne_eq]at *;rw[HX.out])
 all_goals (first|(rw[Kj (by omega)];rfl)|(rw[QV (by omega) (by omega)];rfl)|(rw[QW (by omega) (by omega) (by omega)];rfl)|(rw[NY (by omega) (by omega) (by omega)];rfl))
end Go.Proofs.YtpijlhlpejlhhaaGreat
