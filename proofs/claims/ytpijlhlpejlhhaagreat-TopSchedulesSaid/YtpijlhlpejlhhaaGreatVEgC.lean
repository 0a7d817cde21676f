/- Walk: edge.Ite. -/
import Derived.Test.YtpijlhlpejlhhaaGreatVEgB
import Derived.Laws.StructEq
namespace Go.Proofs.YtpijlhlpejlhhaaGreat
open Go.RowKit
set_option linter.unusedVariables false
set_option maxRecDepth 100000
set_option maxHeartbeats 4000000
theorem QX(x y x' y':Int)(w:World):(binOp .eql 217 (.agg #[.int .i64 x,.int .i64 y]) (.agg #[.int .i64 x',.int .i64 y'])).run Tryz.prog w=.ok (.bool (x==x'&&y==y')) w:=by
 obtain⟨i,hi⟩:=Option.isSome_iff_exists.1 (show(Tryz.prog.info? 107).isSome=true by kernel_rfl);have hc:Tryz.prog.cellsOf 107=1:=by kernel_rfl
 have u:=Tryz.underlying107;have a:=Tryz.isAgg107;rw[run_eql_struct,show(10000:Nat)=9999+1 from rfl,run_equalIn_array w 9999 _ _ Tryz.underlying217 hi,hc];simp only[show List.range 2=[0,1]from rfl,Op.eqItems];go_simp
 by_cases h1:x=x'<;>by_cases h2:y=y'<;>simp[h1,h2]
/-- What Ite hands back behind its first two switches. -/
def UN(f g h:Nat):Value:=
 if f=0∨g=h then .tuple #[.int .i64 0,.int .i64 0,.int .i64 0,.bool false,.int .i64 (g:Nat),.bool true]
 else if f=1 then .tuple #[.int .i64 0,.int .i64 0,.int .i64 0,.bool false,.int .i64 (h:Nat),.bool true]
 else if g=0∧h=1 then .tuple #[.int .i64 0,.int .i64 0,.int .i64 0,.bool false,.int .i64 (f:Nat),.bool true]
 else if g=1∧h=0 then .tuple #[.int .i64 0,.int .i64 0,.int .i64 0,.bool false,.int .i64 (Bd.neg f:Nat),.bool true]
 else if Bd.odd f then .tuple #[.int .i64 (Bd.neg f:Nat),.int .i64 (Bd.flip h (Bd.odd h):Nat),.int .i64 (Bd.flip g (Bd.odd h):Nat),.bool (Bd.odd h),.int .i64 0,.bool false]
 else .tuple #[.int .i64 (f:Nat),.int .i64 (Bd.flip g (Bd.odd g):Nat),.int .i64 (Bd.flip h (Bd.odd g):Nat),.bool (Bd.odd g),.int .i64 0,.bool false]
/-- What Ite hands back. -/
def NZ(f g k:Nat):Value:=match Bd.PK f g k with
 |.inr r=>.tuple #[.int .i64 0,.int .i64 0,.int .i64 0,.bool false,.int .i64 (r:Nat),.bool true]
 |.inl (a,b,c,t)=>.tuple #[.int .i64 (a:Nat),.int .i64 (b:Nat),.int .i64 (c:Nat),.bool t,.int .i64 0,.bool false]
theorem QY(f g k:Nat):NZ f g k=UN f (Bd.BO f g) (Bd.BP f k):=by
 unfold NZ UN Bd.PK
 generalize Bd.BO f g=g
 generalize Bd.BP f k=h
 dsimp only
 by_cases h1:f=0∨g=h
 ·rw[if_pos h1,if_pos h1]
 rw[if_neg h1,if_neg h1]
 by_cases h2:f=1
 ·rw[if_pos h2,if_pos h2]
 rw[if_neg h2,if_neg h2]
 by_cases h3:g=0∧h=1
 ·rw[if_pos h3,if_pos h3]
 rw[if_neg h3,if_neg h3]
 by_cases h4:g=1∧h=0
 ·rw[if_pos h4,if_pos h4]
 rw[if_neg h4,if_neg h4];cases Bd.odd f<;>rfl
theorem AQ{fn:Func}{t1 t2 t3 t4 t5 t6:Tmp}(h:fn.results=#[.tmp t1,.tmp t2,.tmp t3,.tmp t4,.tmp t5,.tmp t6])(tmps:Array Value)(P:Program)(w:World):(results fn tmps).run P w=.ok (.tuple #[tmps.getD t1 undef,tmps.getD t2 undef,tmps.getD t3 undef,tmps.getD t4 undef,tmps.getD t5 undef,tmps.getD t6 undef]) w:=by
 simp[results,h]
theorem N8(f g k:Nat)(w:World)(hf:f<4611686018427387904)(hg:g<4611686018427387904)(hk:k<4611686018427387904):Calls Tryz.prog 134 #[.int .i64 (f:Nat),.int .i64 (g:Nat),.int .i64 (k:Nat)] w fun x w'=>x=.returned (NZ f g k)∧w'=w:=by
 have c:=fun w=>qN f w hf
 have hG:Bd.BO f g<4611686018427387904:=by
  unfold Bd.BO
  split
  ·omega
  ·split<;>omega
 have hK:Bd.BP f k<4611686018427387904:=by
  unfold Bd.BP
  split
  ·omega
  ·split<;>omega
 obtain⟨X,hX⟩:∃X,X=NZ f g k:=⟨_,rfl⟩;rw[←hX];rw[QY]at hX;have HX:=Lib.hid hX;clear hX;go_in
 go_upto_block 0 with fail
 go_cut [1]from 13 (fun v wc=>v=.int .i64 ((Bd.BO f g:Nat):Int)∧wc=w)
 case first=>
  have H:=Lib.hid (show Bd.BO f g=if g=f then 0 else if g=Bd.neg f then 1 else g from rfl)
  go_wp2_with (go_at_call 133;refine(c _).mono ?_;rintro x w' ⟨rfl,rfl⟩)
  all_goals go_meet
  all_goals (refine⟨?_,rfl⟩;rw[H.out];try simp only[beq_iff_eq,beq_eq_false_iff_ne,ne_eq]at *)
  ·rename_i h1;rw[if_pos (by omega)];rfl
  ·rename_i h1 h2;rw[if_neg (by omega),if_pos (by omega)];rfl
  ·rename_i h1 h2;rw[if_neg (by omega),if_neg (by omega)]
 case rest=>
  obtain⟨rfl,rfl⟩:=hcut
  go_upto_block 1 with fail
  go_cut [2]from 22 (fun v wc'=>v=.int .i64 ((Bd.BP f k:Nat):Int)∧wc'=wc)
  case first=>
   have H:=Lib.hid (show Bd.BP f k=if k=f then 1 else if k=Bd.neg f then 0 else k from rfl)
   go_wp2_with (go_at_call 133;refine(c _).mono ?_;rintro x w' ⟨rfl,rfl⟩)
   all_goals go_meet
   all_goals (refine⟨?_,rfl⟩;rw[H.out];try simp only[beq_iff_eq,beq_eq_false_iff_ne,ne_eq]at *)
   ·rename_i h1;rw[if_pos (by omega)];rfl
   ·rename_i h1 h2;rw[if_neg (by omega),if_pos (by omega)];rfl
   ·rename_i h1 h2;rw[if_neg (by omega),if_neg (by omega)]
  case rest=>
   obtain⟨rfl,rfl⟩:=hcut
   generalize Bd.BO f g=p at *
   generalize Bd.BP f k=q at *
   have ep:=QX
   go_wp2_with (first|(go_at_call 133;refine(c _).mono ?_;rintro x w' ⟨rfl,rfl⟩)|(go_at_call 155;refine(vT _ _ (by assumption)).mono ?_;rintro x w' ⟨rfl,rfl⟩)|(go_at_call 80;refine(gq _ _ _ (by assumption)).mono ?_;rintro x w' ⟨rfl,rfl⟩))
   all_goals (refine bodyPost_ret (AQ rfl _ _ _) rfl ?_)
   all_goals (refine⟨?_,rfl⟩;simp only[beq_iff_eq,beq_eq_false_iff_ne,ne_eq]at *;rw[HX.out];unfold UN)
   ·rw[if_pos (by omega)];rename_i h0;rfl
   ·rw[if_pos (by omega)];rfl
   ·rw[if_neg (by omega),if_pos (by omega)];rfl
   ·rw[if_neg (by omega),if_neg (by omega),if_pos (by omega)];rfl
   ·rw[if_neg (by omega),if_neg (by omega),if_neg (by omega),if_pos (by omega)];rfl
   ·rw[if_neg (by omega),if_neg (by omega),if_neg (by omega),if_neg (by omega),if_pos (show Bd.odd f=true from by assumption)];rfl
   ·rw[if_neg (by omega),if_neg (by omega),if_neg (by omega),if_neg (by omega),if_neg (by rw[show Bd.odd f=false from by assumption];simp)];rfl
end Go.Proofs.YtpijlhlpejlhhaaGreat
