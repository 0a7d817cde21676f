/- Walks and plain words: UnB UnC. -/
import Derived.Test.YtpijlhlpejlhhaaGreatVUnA
import Derived.Test.YtpijlhlpejlhhaaGreatVMpC
import Derived.StillTailTactics
import Derived.Deep.LoopGhost
import Derived.Sort.Grow
import Derived.Deep.Cut
namespace Go.Proofs.YtpijlhlpejlhhaaGreat
open Go.RowKit
set_option linter.unusedVariables false
set_option maxRecDepth 100000
set_option maxHeartbeats 4000000
def iL(a b:Int):Int:=if a<b then -1 else if b<a then 1 else 0
def Pp(a b c:Int):Int:=if a≠0 then a else if b≠0 then b else c
theorem Nw(a:Int)(w:World):Calls Tryz.prog 111 #[.int .i64 a] w fun e w'=>e=.returned (.bool false)∧w'=w:=by
 go_in
 go_wp2
 go_ret;exact⟨rfl,rfl⟩
theorem Ny(a:Int)(w:World):Calls Tryz.prog 196 #[.int .i64 a] w fun e w'=>e=.returned (.bool false)∧w'=w:=by
 go_in
 go_wp2
 go_ret;exact⟨rfl,rfl⟩
theorem Nz(a b:Int)(w:World):Calls Tryz.prog 51 #[.int .i64 a,.int .i64 b] w fun e w'=>e=.returned (.int .i64 (iL a b))∧w'=w:=by
 have c:=fun x=>Nw x w;have HZ:(a<b→iL a b=-1)∧(b<a→iL a b=1)∧(¬a<b→¬b<a→iL a b=0):=⟨fun h=>by simp[iL,h],fun h=>by simp[iL,h];omega,fun h k=>by simp[iL,h,k]⟩
 generalize iL a b=z at *
 have HH:=Lib.hid HZ;clear HZ;go_in
 go_wp2_with (go_at_call 111;refine(c _).mono ?_;rintro e w' ⟨rfl,rfl⟩)
 all_goals go_ret
 all_goals (obtain⟨h1,h2,h3⟩:=HH.out;refine⟨?_,rfl⟩)
 all_goals first|(rw[h1 (by omega)];rfl)|(rw[h2 (by omega)];rfl)|(rw[h3 (by omega) (by omega)];rfl)
theorem C_(a b:Int)(w:World):Calls Tryz.prog 192 #[.int .i64 a,.int .i64 b] w fun e w'=>e=.returned (.int .i64 (iL a b))∧w'=w:=by
 have c:=fun x=>Ny x w;have HZ:(a<b→iL a b=-1)∧(b<a→iL a b=1)∧(¬a<b→¬b<a→iL a b=0):=⟨fun h=>by simp[iL,h],fun h=>by simp[iL,h];omega,fun h k=>by simp[iL,h,k]⟩
 generalize iL a b=z at *
 have HH:=Lib.hid HZ;clear HZ;go_in
 go_wp2_with (go_at_call 196;refine(c _).mono ?_;rintro e w' ⟨rfl,rfl⟩)
 all_goals go_ret
 all_goals (obtain⟨h1,h2,h3⟩:=HH.out;refine⟨?_,rfl⟩)
 all_goals first|(rw[h1 (by omega)];rfl)|(rw[h2 (by omega)];rfl)|(rw[h3 (by omega) (by omega)];rfl)
theorem Qz(g:Nat)(x:Nat→Int)(w:World)(h0:w.cell? ⟨g,0,none⟩=some (.int .i64 (x 0)))(h1:w.cell? ⟨g,1,none⟩=some (.int .i64 (x 1)))(h2:w.cell? ⟨g,2,none⟩=some (.int .i64 (x 2))) :
 Calls Tryz.prog 50 #[.slice (some ⟨g,0,none⟩) 3 3] w fun e w'=>e=.returned (.int .i64 (Pp (x 0) (x 1) (x 2)))∧w'=w:=by
 have hc:∀j:Nat,j<3→w.cell? ⟨g,j,none⟩=some (.int .i64 (x j)):=fun j hj=>by
  rcases(show j=0∨j=1∨j=2 by omega)with rfl|rfl|rfl
  ·exact h0
  ·exact h1
  ·exact h2
 have HO:∀j,j<3→(∀i,i<j→x i=0)→x j≠0→Pp (x 0) (x 1) (x 2)=x j:=fun j hj hi hx=>by
  rcases(show j=0∨j=1∨j=2 by omega)with rfl|rfl|rfl
  ·simp[Pp,hx]
  ·simp[Pp,hi 0 (by omega),hx]
  ·simp[Pp,hi 0 (by omega),hi 1 (by omega)]
 have HP:(∀i,i<3→x i=0)→Pp (x 0) (x 1) (x 2)=0:=fun hi=>by simp[Pp,hi 0 (by omega),hi 1 (by omega),hi 2 (by omega)]
 generalize Pp (x 0) (x 1) (x 2)=z at *
 have HH:=Lib.hid (And.intro HO HP);clear HO HP h0 h1 h2;go_in
 go_wp2
 go_loopg [5,8,9,10,11,12,13,14,15,16] 3 (fun k v5 v8 v9 v10 v11 v12 v13 v14 v15 v16 wr=>∃j:Nat,k=3-j∧j≤3∧v8=.int .i64 (j:Nat)∧(∀i,i<j→x i=0)∧wr=w)
 case atStart=>exact⟨0,rfl,by omega,rfl,by omega,rfl⟩
 case round=>
  obtain⟨j,rfl,hj,rfl,hx,rfl⟩:=hrel;have HX:=Lib.hid hx;clear hx
  by_cases hlt:j<3
  ·have cj:=hc j hlt;have hji:(j:Int)<3:=by omega
   clear hc
   go_wp2
   ·have hz:x j≠0:=by simpa using(show(x j != 0)=true by assumption)
    go_ret;refine⟨?_,rfl⟩;rw[HH.1 j hlt HX hz]
    rfl
   ·have hz:x j=0:=by simpa using(show(x j != 0)=false by assumption)
    go_roundg (3-(j+1))
    case rel=>exact⟨j+1,rfl,by omega,by simp,fun i hi=>by
     rcases(show i<j∨i=j by omega)with h|rfl
     ·exact HX i h
     ·exact hz,rfl⟩
    case measure=>omega
  ·obtain rfl:j=3:=by omega
   go_wp2
   go_ret;refine⟨?_,rfl⟩;rw[HH.2 HX]
   rfl
theorem aM{id:Nat}{Q:Exit→Act→World→Prop}{a:Act}{w:World}{l:List Oper}(n:Nat)(hm:Tryz.prog.follows .mixedOrders=true)(hB:Region.lexTailB .any l.toArray n=true)
 (h:wpStill Tryz.prog l.toArray w.drew (fun a'=>wpList Tryz.prog l.toArray Q (l.drop n) a' w.drew) (l.take n) a):(Code.region id l.toArray true).wp Tryz.prog Q a w:=wp_region_still_tail n hm hB h
/-- How two keys compare. -/
def QA(f:Nat→Nat→Option Nat)(x y:Nat×Nat):Int:=Pp (iL ((dY f x).getD 0) ((dY f y).getD 0)) (iL x.1 y.1) (iL x.2 y.2)
theorem NA{w:World}{cb tb mb c:Nat}{f:Nat→Nat→Option Nat}(hc:w.heap[cb]?=some (.cells #[.pointer (some ⟨tb,0,none⟩)] 198 (0,0)))
 (hr:w.heap[tb]?=some (.cells #[.map (some mb)] 227 (0,0))) (hm:bV jh w mb c (dY f)) (x y:Nat×Nat) (gx:jZ x) (gy:jZ y) :
 Calls Tryz.prog 191 #[gQ x,gQ y,.pointer (some ⟨cb,0,none⟩)] w fun e w'=>e=.returned (.int .i64 (QA f x y))∧∃q os',w'=Go.Sort.grow (w.drewN q) os':=by
 obtain⟨x1,x2⟩:=x;obtain⟨y1,y2⟩:=y;unfold gQ;obtain⟨b1,B1⟩:∃o:Obj,o=.cells #[.int .i64 (x1:Nat),.int .i64 (x2:Nat)] 217:=⟨_,rfl⟩;obtain⟨b2,B2⟩:∃o:Obj,o=.cells #[.int .i64 (y1:Nat),.int .i64 (y2:Nat)] 217:=⟨_,rfl⟩;obtain⟨W,hW⟩:∃W,W=((w.alloc b1).alloc b2).drew:=⟨_,rfl⟩;have hb:Below w.heap.size w W:=by rw[hW];exact(((Below.refl _ w).alloc (Nat.le_refl _) _).alloc (by simp) _).drew
 have kc:W.cell? ⟨cb,0,none⟩=some (.pointer (some ⟨tb,0,none⟩)):=au ((hb.block _ (aV hc)).trans hc) 0 rfl;have kr:W.cell? ⟨tb,0,none⟩=some (.map (some mb)):=au ((hb.block _ (aV hr)).trans hr) 0 rfl;have hm1:=hm.kept (hb.block _ hm.lt);have l1:=hm1.qI (x:=(x1,x2)) gx;have l2:=hm1.qI (x:=(y1,y2)) gy;have e1:=Nz ((dY f (x1,x2)).getD 0) ((dY f (y1,y2)).getD 0) W;have e2:=C_ x1 y1 W;have e3:=C_ x2 y2 W;unfold QA
 dsimp only
 simp only[jh,gQ]at l1 l2
 generalize (dY f (x1,x2)).getD 0=u1 at *
 generalize (dY f (y1,y2)).getD 0=u2 at *
 generalize iL u1 u2=z0 at *
 generalize iL (x1:Nat) (y1:Nat)=z1 at *
 generalize iL (x2:Nat) (y2:Nat)=z2 at *
 have e4:=fun g W' h0 h1 h2=>Qz g (fun j=>if j=0 then z0 else if j=1 then z1 else z2) W' h0 h1 h2;simp only[if_true,Nat.one_ne_zero,if_false,show(2:Nat)≠0 from by decide,show(2:Nat)≠1 from by decide]at e4;subst hW;subst B1;subst B2;have A:=heap_alloc_new ((w.alloc (.cells #[.int .i64 (x1:Nat),.int .i64 (x2:Nat)] 217)).alloc (.cells #[.int .i64 (y1:Nat),.int .i64 (y2:Nat)] 217)).drew (.cells #[.int .i64 z0,.int .i64 z1,.int .i64 z2] 3);rw[show((w.alloc (.cells #[.int .i64 (x1:Nat),.int .i64 (x2:Nat)] 217)).alloc (.cells #[.int .i64 (y1:Nat),.int .i64 (y2:Nat)] 217)).drew.heap.size=w.heap.size+1+1 from by show((w.alloc _).alloc _).heap.size=_;simp]at A;have e5:=e4 _ _ (au A 0 rfl) (au A 1 rfl) (au A 2 rfl);clear e4 A;have HB:=Lib.hid hb;have lc:=aV hc;have lr:=aV hr;clear hb hc hr hm hm1 gx gy;go_in
 go_upto_region 1 with fail
 refine aM 23 (by kernel_rfl) (by kernel_rfl) ?_;simp only[List.take_succ_cons,List.take_zero,List.drop_succ_cons,List.drop_zero]
 repeat still_step
 refine wpStill_step (fun K hK=>?_);go_simp;refine⟨_,e1,hK _ ?_⟩;clear hK K
 repeat still_step
 refine wpStill_step (fun K hK=>?_);go_simp;refine⟨_,e2,hK _ ?_⟩;clear hK K
 repeat still_step
 refine wpStill_step (fun K hK=>?_);go_simp;refine⟨_,e3,hK _ ?_⟩;clear hK K;refine wpStill_nil ?_
 go_wp2_with (go_at_call 50;refine e5.mono ?_;rintro e w' ⟨rfl,rfl⟩)
 go_ret;exact⟨rfl,1,#[_,_,_],rfl⟩
end Go.Proofs.YtpijlhlpejlhhaaGreat
