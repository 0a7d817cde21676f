/- Walks and plain words: PlA PlB PlC PlD PlS PlE PlF. -/
import Derived.Test.YtpijlhlpejlhhaaGreatVRwB
import Derived.Test.YtpijlhlpejlhhaaGreatVBdM
import Derived.Laws.ResultCell
import Derived.Deep.CutBlock
import Derived.RegionTactic
import Derived.BigRegion
import Derived.Deep.Cut
namespace Go.Proofs.YtpijlhlpejlhhaaGreat
open Go.RowKit
set_option linter.unusedVariables false
set_option maxRecDepth 100000
set_option maxHeartbeats 4000000
section
/-- A node's five cells. -/
def bC(S:Bd.St)(i:Nat):List Value:=match S.nd i with
 |some d=>[.int .i64 (i:Nat),.int .i64 (d.v:Nat),.int .i64 (d.lo:Nat),.int .i64 (d.hi:Nat),.int .i64 (S.refs i:Nat)]
 |none=>[.int .i64 0,.int .i64 0,.int .i64 0,.int .i64 0,.int .i64 0]
/-- The pool's rows in memory: roles 7 to 9. -/
structure dX(K:Nat→Nat)(w:World)(ga ca gt ct:Nat)(fv:Value)(N M:Nat)(fl:List Nat)(E:Nat→List Value)(tk:Nat→Bool):Prop where
 at':Rw w 171 5 N ca ga E
 taken:Rw w 4 1 M ct gt (fun i=>[.bool (tk i)])
 free:Sl w 3 1 fv fl.length (fun i=>[.int .i64 (fl.getD i 0:Nat)])
 ka:K ga=7
 kt:K gt=8
 kf:j4 K 9 fv
/-- The pool in memory: roles 6 to 9. -/
structure aY(K:Nat→Nat)(w:World)(pb ga ca gt ct:Nat)(fv:Value)(room:Nat)(S:Bd.St):Prop where
 row:w.heap[pb]?=some (.cells #[.int .i64 (room:Nat),.slice (some ⟨ga,0,none⟩) S.N ca,.slice (some ⟨gt,0,none⟩) S.N ct,fv,.int .i64 (S.many:Nat)] 208 (0,0))
 b:dX K w ga ca gt ct fv S.N S.N S.free (bC S) (fun i=>(S.nd i).isSome)
 big:S.N≤1048577
 nz:∀i,S.nd i≠none→0<i∧i<S.N
 kp:K pb=6
section
variable {K K':Nat→Nat} {w w':World} {pb ga ca gt ct room N M:Nat} {fv:Value} {S:Bd.St} {fl:List Nat} {E E':Nat→List Value} {tk tk':Nat→Bool}
theorem aY.at'(h:aY K w pb ga ca gt ct fv room S):Rw w 171 5 S.N ca ga (bC S):=h.b.at'
theorem aY.taken(h:aY K w pb ga ca gt ct fv room S):Rw w 4 1 S.N ct gt (fun i=>[.bool (S.nd i).isSome]):=h.b.taken
theorem dX.aG{R:Nat→Prop}(h:dX K w ga ca gt ct fv N M fl E tk)(t:aj R K w K' w')(hR:∀r,R r→r<7∨9<r):dX K' w' ga ca gt ct fv N M fl E tk:=by
 have hn:∀r,7≤r→r≤9→¬R r:=fun r h1 h2 h3=>by have:=hR r h3;omega
 obtain⟨f1,f2⟩:=h.free.aG h.kf t (hn 9 (by omega) (by omega));exact⟨h.at'.kept (t.block h.at'.lt (by rw[h.ka];exact hn 7 (by omega) (by omega))),h.taken.kept (t.block h.taken.lt (by rw[h.kt];exact hn 8 (by omega) (by omega))),f1,(t.ext _ h.at'.lt).trans h.ka,(t.ext _ h.taken.lt).trans h.kt,f2⟩
theorem dX.congr(h:dX K w ga ca gt ct fv N M fl E tk)(hE:∀i,i<N→E' i=E i)(ht:∀i,i<M→tk' i=tk i):dX K w ga ca gt ct fv N M fl E' tk':=
 ⟨h.at'.congr (fun i hi j _=>by rw[hE i hi]),h.taken.congr (fun i hi j _=>by rw[ht i hi]),h.free,h.ka,h.kt,h.kf⟩
theorem dX.setAt(h:dX K w ga ca gt ct fv N M fl E tk){i:Nat}(hi:i<N){vs:List Value}(hl:vs.length=5):dX K (w.setCells ga (i*5) vs) ga ca gt ct fv N M fl (fun q=>if q=i then vs else E q) tk∧aj (fun r=>r=7) K w K (w.setCells ga (i*5) vs):=by
 have t:aj (fun r=>r=7) K w K (w.setCells ga (i*5) vs):=qL h.ka _ _ _ aj.refl h.at'.lt;obtain⟨f1,f2⟩:=h.free.aG h.kf t (by omega);exact⟨⟨h.at'.Ub hi hl,h.taken.kept (t.block h.taken.lt (by rw[h.kt];omega)),f1,h.ka,h.kt,f2⟩,t⟩
theorem dX.yF(h:dX K w ga ca gt ct fv N M fl E tk){i:Nat}(hi:i<M)(b:Bool):dX K (w.setCell ⟨gt,i,none⟩ (.bool b)) ga ca gt ct fv N M fl E (fun q=>if q=i then b else tk q)∧aj (fun r=>r=8) K w K (w.setCell ⟨gt,i,none⟩ (.bool b)):=by
 have t:aj (fun r=>r=8) K w K (w.setCell ⟨gt,i,none⟩ (.bool b)):=aj.refl.iI h.kt h.taken.lt _;obtain⟨f1,f2⟩:=h.free.aG h.kf t (by omega);exact⟨⟨h.at'.kept (t.block h.at'.lt (by rw[h.ka];omega)),(h.taken.set1 hi _).congr (fun q hq j hj=>by by_cases e:q=i<;>simp[e]),f1,h.ka,h.kt,f2⟩,t⟩
theorem dX.M_{g c:Nat}(h:dX K w ga ca gt ct fv N M fl E tk)(hq:bY w 171 5 (.slice (some ⟨ga,0,none⟩) N ca) N 1 E' g c w'):dX (bJ K g 7) w' g c gt ct fv (N+1) M fl E' tk∧aj (fun r=>r=7) K w (bJ K g 7) w':=by
 obtain⟨t,k⟩:=hq.aG (R:=fun r=>r=7) aj.refl (j4.of h.ka) rfl (.inr ⟨ga,ca,rfl,h.at'⟩);obtain⟨f1,f2⟩:=h.free.aG h.kf t (by omega);exact⟨⟨hq.row,h.taken.kept (t.block h.taken.lt (by rw[h.kt];omega)),f1,k,(t.ext _ h.taken.lt).trans h.kt,f2⟩,t⟩
theorem dX.Na{g c:Nat}{b:Bool}(h:dX K w ga ca gt ct fv N M fl E tk)(hq:bY w 4 1 (.slice (some ⟨gt,0,none⟩) M ct) M 1 (fun q=>if q=M then[.bool b]else[.bool (tk q)]) g c w'):dX (bJ K g 8) w' ga ca g c fv N (M+1) fl E (fun q=>if q=M then b else tk q)∧aj (fun r=>r=8) K w (bJ K g 8) w':=by
 obtain⟨t,k⟩:=hq.aG (R:=fun r=>r=8) aj.refl (j4.of h.kt) rfl (.inr ⟨gt,ct,rfl,h.taken⟩);obtain⟨f1,f2⟩:=h.free.aG h.kf t (by omega);exact⟨⟨h.at'.kept (t.block h.at'.lt (by rw[h.ka];omega)),hq.row.congr (fun i hi j hj=>by by_cases e:i=M<;>simp[e]),f1,(t.ext _ h.at'.lt).trans h.ka,k,f2⟩,t⟩
theorem dX.CG{g c i:Nat}(h:dX K w ga ca gt ct fv N M fl E tk)(hq:bY w 3 1 fv fl.length 1 (fun q=>if q=fl.length then[.int .i64 (i:Nat)]else[.int .i64 (fl.getD q 0:Nat)]) g c w'):dX (bJ K g 9) w' ga ca gt ct (.slice (some ⟨g,0,none⟩) (fl.length+1) c) N M (fl++[i]) E tk∧aj (fun r=>r=9) K w (bJ K g 9) w':=by
 obtain⟨t,k⟩:=hq.aG (R:=fun r=>r=9) aj.refl h.kf rfl h.free;refine⟨⟨h.at'.kept (t.block h.at'.lt (by rw[h.ka];omega)),h.taken.kept (t.block h.taken.lt (by rw[h.kt];omega)),.inr ⟨g,c,by simp,?_⟩,(t.ext _ h.at'.lt).trans h.ka,(t.ext _ h.taken.lt).trans h.kt,j4.of k⟩,t⟩;have:=hq.row;rw[List.length_append,List.length_singleton];refine this.congr (fun q hq j hj=>?_)
 by_cases e:q=fl.length
 ·subst e;simp
 ·rw[if_neg e];rw[List.getD_eq_getElem?_getD,List.getElem?_append_left (by omega),List.getD_eq_getElem?_getD]
theorem dX.far(h:dX K w ga ca gt ct fv N M fl E tk)(hb:Below w.heap.size w w'):dX K w' ga ca gt ct fv N M fl E tk:=h.aG (R:=fun _=>False) (aj.of_below hb) (fun _ h=>h.elim)
end
theorem z_{K:Nat→Nat}{w:World}{pb ga ca gt ct room:Nat}{fv:Value}{S:Bd.St}(h:aY K w pb ga ca gt ct fv room S)(i:Nat)(hi:i<4611686018427387904):Calls Tryz.prog 154 #[.pointer (some ⟨pb,0,none⟩),.int .i64 (i:Nat)] w fun x w'=>x=.returned (.bool (S.nd i).isSome)∧w'=w:=by
 have y1:=au h.row 1 rfl;have y2:=au h.row 2 rfl;have HB:=h.big
 by_cases hn:0<i∧i<S.N
 ·obtain⟨h0,h1⟩:=hn
  have yt:w.cell? ⟨gt,i,none⟩=some (.bool (S.nd i).isSome):=by
   have:=h.taken.cell (i:=i) (j:=0) h1 (by omega)
   simpa using this
  generalize (S.nd i).isSome=t at *
  generalize S.N=N at *
  have h1':(i:Int)<(N:Int):=by omega
  clear h;go_in
  go_wp2
  go_ret;exact⟨rfl,rfl⟩
 ·have hno:(S.nd i).isSome=false:=by
   cases hd:S.nd i with
   |none=>rfl
   |some d=>exact absurd (h.nz i (by rw[hd];simp)) hn
  rw[hno]
  generalize S.N=N at *
  clear h;go_in
  go_wp2
  all_goals go_ret
  all_goals exact⟨rfl,rfl⟩
end
section
section
variable {K K':Nat→Nat} {w w':World} {pb ga ca gt ct room:Nat} {fv:Value} {S:Bd.St}
theorem aY.aG{R:Nat→Prop}(h:aY K w pb ga ca gt ct fv room S)(t:aj R K w K' w')(hR:∀r,R r→r<6∨9<r):aY K' w' pb ga ca gt ct fv room S:=
 ⟨t.obj h.row (by rw[h.kp];intro h3;have:=hR 6 h3;omega),h.b.aG t (fun r h3=>by have:=hR r h3;omega),h.big,h.nz,(t.role h.row).trans h.kp⟩
theorem aY.below(h:aY K w pb ga ca gt ct fv room S)(hb:Below w.heap.size w w'):aY K w' pb ga ca gt ct fv room S:=h.aG (aj.of_below (R:=fun _=>False) hb) (fun _ h=>h.elim)
theorem aY.drew(h:aY K w pb ga ca gt ct fv room S):aY K w.drew pb ga ca gt ct fv room S:=h.aG (R:=fun _=>False) (aj.refl.drewN 1) (fun _ h=>h.elim)
end
theorem rCT{P:Program}{fn:Func}{p u:Tmp}{ty:TypeId}(h:fn.results=#[.cell p ty,.tmp u])(tmps:Array Value)(w:World)(g:Nat)(t:TypeId)(cs:Array Value)(fr:Nat×Nat)(d:TypeDesc)
 (hp:tmps.getD p undef=.pointer (some ⟨g,0,none⟩)) (hg:w.heap[g]?=some (.cells cs t fr))
 (hu:P.underlying ty=some d) (hd:(match d with|.struct _|.array _ _=>true|_=>false)=true) (hi:(P.info? ty).map (·.size)=some cs.size) :
 (results fn tmps).run P w=.ok (.tuple #[.agg cs,tmps.getD u undef]) w:=by
 have hp':tmps[p]?.getD undef=.pointer (some ⟨g,0,none⟩):=by simpa using hp
 simp[results,h,hp',asAddr,run_loadVar_row w g t ty cs fr d hg hu hd hi]
theorem Tryz.sizeN:(Tryz.prog.info? 171).map (·.size)=some 5:=by kernel_rfl
theorem Hw{K:Nat→Nat}{w:World}{pb ga ca gt ct room:Nat}{fv:Value}{S:Bd.St}(h:aY K w pb ga ca gt ct fv room S)(i:Nat)(hi:i<4611686018427387904):Calls Tryz.prog 123 #[.pointer (some ⟨pb,0,none⟩),.int .i64 (i:Nat)] w fun x w'=>x=.returned (.tuple #[.agg (bC S i).toArray,.bool (S.nd i).isSome])∧Below w.heap.size w w':=by
 have c:=fun w' (hb:Below w.heap.size w w')=>z_ (h.below hb) i hi;have hb0:=(Below.refl _ w).alloc (Nat.le_refl w.heap.size) (.cells #[.int .i64 0,.int .i64 0,.int .i64 0,.int .i64 0,.int .i64 0] 171);have c1:=c _ hb0;have h1:=h.below hb0;clear c
 cases hd:S.nd i with
 |none=>
  rw[hd]at c1;have HN:=Lib.hid (show bC S i=[.int .i64 0,.int .i64 0,.int .i64 0,.int .i64 0,.int .i64 0]from by unfold bC;rw[hd]);clear h h1 hd;simp only[Option.isSome_none]at c1⊢;go_in
  go_wp2_with (go_at_call 154;refine c1.mono ?_;rintro x w' ⟨rfl,rfl⟩)
  refine bodyPost_ret (rCT rfl _ _ w.heap.size _ _ _ _ rfl (heap_alloc_new _ _) Tryz.underlying171 rfl Tryz.sizeN) rfl ?_;exact⟨by rw[HN];rfl,hb0⟩
 |some d=>
  rw[hd]at c1;have HN:=Lib.hid (show bC S i=[.int .i64 (i:Nat),.int .i64 (d.v:Nat),.int .i64 (d.lo:Nat),.int .i64 (d.hi:Nat),.int .i64 (S.refs i:Nat)]from by unfold bC;rw[hd]);obtain⟨i0,i1⟩:=h.nz i (by rw[hd];simp);have y1:=au h1.row 1 rfl;have z0:=h1.at'.cell (i:=i) (j:=0) i1 (by omega);have z1:=h1.at'.cell (i:=i) (j:=1) i1 (by omega);have z2:=h1.at'.cell (i:=i) (j:=2) i1 (by omega);have z3:=h1.at'.cell (i:=i) (j:=3) i1 (by omega);have z4:=h1.at'.cell (i:=i) (j:=4) i1 (by omega);rw[HN]at z0 z1 z2 z3 z4;simp only[List.getElem?_cons_zero,List.getElem?_cons_succ,Nat.add_zero]at z0 z1 z2 z3 z4;have HB:=h.big;have Xn:(i:Int)<(S.N:Int):=by omega
  clear h h1 hd;simp only[Option.isSome_some]at c1⊢
  generalize S.N=N at *
  go_in
  go_wp2_with (go_at_call 154;refine c1.mono ?_;rintro x w' ⟨rfl,rfl⟩)
  refine bodyPost_ret (rCT rfl _ _ w.heap.size _ _ _ _ rfl (heap_alloc_new _ _) Tryz.underlying171 rfl Tryz.sizeN) rfl ?_;exact⟨by rw[HN];rfl,(Below.refl _ w).alloc (Nat.le_refl w.heap.size) _⟩
end
theorem Nb{K:Nat→Nat}{w:World}{pb ga ca gt ct room:Nat}{fv:Value}{S:Bd.St}(h:aY K w pb ga ca gt ct fv room S):Calls Tryz.prog 182 #[.pointer (some ⟨pb,0,none⟩)] w fun x w'=>x=.returned (.int .i64 (S.many:Nat))∧w'=w:=by
 have y4:=au h.row 4 rfl;clear h;go_in
 go_wp2
 go_ret;exact⟨rfl,rfl⟩
theorem Jm{K:Nat→Nat}{w:World}{pb ga ca gt ct room:Nat}{fv:Value}{S:Bd.St}(h:aY K w pb ga ca gt ct fv room S):Calls Tryz.prog 181 #[.pointer (some ⟨pb,0,none⟩)] w fun x w'=>x=.returned (.int .i64 (room:Nat))∧w'=w:=by
 have y0:=au h.row 0 rfl;clear h;go_in
 go_wp2
 go_ret;exact⟨rfl,rfl⟩
theorem dZ(S:Bd.St)(i:Nat):(bC S i).length=5:=by unfold bC;split<;>rfl
/-- A node is written into its slot. -/
theorem aY.node{K:Nat→Nat}{w:World}{pb ga ca gt ct room:Nat}{fv:Value}{S:Bd.St}(h:aY K w pb ga ca gt ct fv room S){i:Nat}{d d0:Bd.Nd}{r:Nat}(hd:S.nd i=some d0) :
 aY K (w.setCells ga (i*5) [.int .i64 (i:Nat),.int .i64 (d.v:Nat),.int .i64 (d.lo:Nat),.int .i64 (d.hi:Nat),.int .i64 (r:Nat)]) pb ga ca gt ct fv room {S with nd:=Bd.set1 S.nd i (some d),refs:=Bd.set1 S.refs i r} ∧
 aj (fun r=>r=7) K w K (w.setCells ga (i*5) [.int .i64 (i:Nat),.int .i64 (d.v:Nat),.int .i64 (d.lo:Nat),.int .i64 (d.hi:Nat),.int .i64 (r:Nat)]):=by
 obtain⟨i0,i1⟩:=h.nz i (by rw[hd];simp);obtain⟨b,t⟩:=h.b.setAt i1 (vs:=[.int .i64 (i:Nat),.int .i64 (d.v:Nat),.int .i64 (d.lo:Nat),.int .i64 (d.hi:Nat),.int .i64 (r:Nat)]) rfl;refine⟨⟨t.obj h.row (by rw[h.kp];omega),b.congr (fun q hq=>?_) (fun q hq=>?_),h.big,fun q hq=>?_,h.kp⟩,t⟩
 ·by_cases e:q=i
  ·subst e;simp only[bC,Bd.set1,if_true]
  ·simp only[bC,Bd.set1,if_neg e]
 ·by_cases e:q=i
  ·subst e;simp only[Bd.set1,if_true,hd];rfl
  ·simp only[Bd.set1,if_neg e]
 ·by_cases e:q=i
  ·subst e;exact⟨i0,i1⟩
  ·simp only[Bd.set1,if_neg e]at hq;exact h.nz q hq
theorem vO{K:Nat→Nat}{w:World}{pb ga ca gt ct room:Nat}{fv:Value}{S:Bd.St}(h:aY K w pb ga ca gt ct fv room S)(i:Nat)(d0 d:Bd.Nd)(r:Nat)(hd:S.nd i=some d0):Calls Tryz.prog 124 #[.pointer (some ⟨pb,0,none⟩),.agg #[.int .i64 (i:Nat),.int .i64 (d.v:Nat),.int .i64 (d.lo:Nat),.int .i64 (d.hi:Nat),.int .i64 (r:Nat)]] w fun x w'=>x=.returned (.int .i64 0)∧aY K w' pb ga ca gt ct fv room {S with nd:=Bd.set1 S.nd i (some d),refs:=Bd.set1 S.refs i r}∧aj (fun r=>r=7) K w K w':=by
 have HB:=h.big;obtain⟨i0,i1⟩:=h.nz i (by rw[hd];simp);obtain⟨W,hW⟩:∃W,W=w.alloc (.cells #[.int .i64 (i:Nat),.int .i64 (d.v:Nat),.int .i64 (d.lo:Nat),.int .i64 (d.hi:Nat),.int .i64 (r:Nat)] 171):=⟨_,rfl⟩;have hb0:Below w.heap.size w W:=by rw[hW];exact(Below.refl _ w).alloc (Nat.le_refl w.heap.size) _
 have h1:=h.below hb0;have c1:=z_ h1 i (by omega);rw[hd]at c1;simp only[Option.isSome_some]at c1;have y1:=au h1.row 1 rfl;have Xn:(i:Int)<(S.N:Int):=by omega
 have hbx:W.heap[w.heap.size]?=some (.cells #[.int .i64 (i:Nat),.int .i64 (d.v:Nat),.int .i64 (d.lo:Nat),.int .i64 (d.hi:Nat),.int .i64 (r:Nat)] 171 (0,0)):=by rw[hW];exact heap_alloc_new _ _
 have x0:=au hbx 0 rfl;have x1:=au hbx 1 rfl;have x2:=au hbx 2 rfl;have x3:=au hbx 3 rfl;have x4:=au hbx 4 rfl;obtain⟨u0,z0⟩:=h1.at'.some (fun i _=>dZ S i) (j:=0) i1 (by omega);obtain⟨u1,z1⟩:=h1.at'.some (fun i _=>dZ S i) (j:=1) i1 (by omega);obtain⟨u2,z2⟩:=h1.at'.some (fun i _=>dZ S i) (j:=2) i1 (by omega);obtain⟨u3,z3⟩:=h1.at'.some (fun i _=>dZ S i) (j:=3) i1 (by omega);obtain⟨u4,z4⟩:=h1.at'.some (fun i _=>dZ S i) (j:=4) i1 (by omega);simp only[Nat.add_zero]at z0;have zf:=h1.at'.frozen;have HP:Hid (aY K W pb ga ca gt ct fv room {S with nd:=S.nd}):=h1;have HD:=Lib.hid hd;have HW:=Lib.hid hW;have HB0:Hid (Below w.heap.size w W):=hb0;obtain⟨F,HF⟩:=aJ (fun(x:Ending)(w':World)=>x=.returned (.int .i64 0)∧aY K w' pb ga ca gt ct fv room {S with nd:=Bd.set1 S.nd i (some d),refs:=Bd.set1 S.refs i r}∧aj (fun r=>r=7) K w K w');rw[←HF];clear hW hbx h h1 hb0 hd
 generalize S.N=N at y1 Xn i1 HB
 go_in
 go_upto_region 1 with fail
 rw[←HW]
 go_wp2_with (go_at_call 154;refine c1.mono ?_;rintro x w' ⟨rfl,rfl⟩)
 go_region
 go_wp2
 rw[HF];obtain⟨p1,p2⟩:=HP.node (d:=d) (r:=r) HD;exact⟨rfl,p1.drew,((aj.of_below HB0).trans p2).drewN 1⟩
section
theorem Xo:dS Tryz.prog 206 171 5 40:=dS.mk (z:=.agg #[.int .i64 0,.int .i64 0,.int .i64 0,.int .i64 0,.int .i64 0]) (by kernel_rfl) (by kernel_rfl) (by decide) (by decide) rfl
theorem Jo:dS Tryz.prog 33 4 1 1:=dS.mk (z:=.bool false) (by kernel_rfl) (by kernel_rfl) (by decide) (by decide) rfl
theorem jq:dS Tryz.prog 22 3 1 8:=dS.mk (z:=.int .i64 0) (by kernel_rfl) (by kernel_rfl) (by decide) (by decide) rfl
def pR(r:Nat):Prop:=6≤r∧r≤9
theorem aH{w:World}{b o:Nat}{vs:Array Value}{T:TypeId}(h:w.heap[b]?=some (.cells vs T (0,0)))(v:Value):(w.setCell ⟨b,o,none⟩ v).heap[b]?=some (.cells (vs.setIfInBounds o v) T (0,0)):=by simp[World.setCell,Array.getElem?_modify,h]
structure PS(K:Nat→Nat)(w:World)(pb nb:Nat)(K':Nat→Nat)(W:World)(vs cs:Array Value)(ga ca gt ct:Nat)(fv:Value)(N M:Nat)(fl:List Nat)(E:Nat→List Value)(tk:Nat→Bool):Prop where
 row:W.heap[pb]?=some (.cells vs 208 (0,0))
 b:dX K' W ga ca gt ct fv N M fl E tk
 kp:K' pb=6
 kn:K' nb=0
 box:W.heap[nb]?=some (.cells cs 171 (0,0))
 aG:aj pR K w K' W
 new:w.heap.size≤nb
section
variable {K K':Nat→Nat} {w W W':World} {pb nb ga ca gt ct N M:Nat} {vs cs:Array Value} {fv:Value} {fl:List Nat} {E E':Nat→List Value} {tk tk':Nat→Bool}
theorem PS.ne(h:PS K w pb nb K' W vs cs ga ca gt ct fv N M fl E tk):nb≠pb:=fun e=>by have h1:=h.kp;have h2:=h.kn;rw[e]at h2;omega
theorem PS.set(h:PS K w pb nb K' W vs cs ga ca gt ct fv N M fl E tk)(j:Nat)(v:Value):PS K w pb nb K' (W.setCell ⟨pb,j,none⟩ v) (vs.setIfInBounds j v) cs ga ca gt ct fv N M fl E tk:=by
 have t:aj (fun r=>r=6) K' W K' (W.setCell ⟨pb,j,none⟩ v):=aj.refl.iI h.kp (aV h.row) _;exact⟨aH h.row v,h.b.aG t (fun r hr=>by omega),h.kp,h.kn,t.obj h.box (by rw[h.kn];omega),h.aG.trans (t.mono (fun r hr=>⟨by omega,by omega⟩)),h.new⟩
theorem PS.put(h:PS K w pb nb K' W vs cs ga ca gt ct fv N M fl E tk)(j:Nat)(v:Value):PS K w pb nb K' (W.setCell ⟨nb,j,none⟩ v) vs (cs.setIfInBounds j v) ga ca gt ct fv N M fl E tk:=by
 have t:aj (fun r=>r=0) K' W K' (W.setCell ⟨nb,j,none⟩ v):=aj.refl.iI h.kn (aV h.box) _;exact⟨t.obj h.row (by rw[h.kp];omega),h.b.aG t (fun r hr=>by omega),h.kp,h.kn,aH h.box v,h.aG.h_ h.new _,h.new⟩
theorem PS.far(h:PS K w pb nb K' W vs cs ga ca gt ct fv N M fl E tk)(hb:Below W.heap.size W W'):PS K w pb nb K' W' vs cs ga ca gt ct fv N M fl E tk:=
 ⟨(hb.block _ (aV h.row)).trans h.row,h.b.far hb,h.kp,h.kn,(hb.block _ (aV h.box)).trans h.box,h.aG.trans (aj.of_below hb),h.new⟩
theorem PS.drew(h:PS K w pb nb K' W vs cs ga ca gt ct fv N M fl E tk):PS K w pb nb K' W.drew vs cs ga ca gt ct fv N M fl E tk:=h.far (Below.refl _ _).drew
theorem PS.alloc(h:PS K w pb nb K' W vs cs ga ca gt ct fv N M fl E tk)(o:Obj):PS K w pb nb K' (W.alloc o) vs cs ga ca gt ct fv N M fl E tk:=h.far ((Below.refl _ _).alloc (Nat.le_refl _) o)
theorem PS.turn{r:Nat}{K2:Nat→Nat}{Xp Xq gt' Xr N' M':Nat}{Qi:Value}{Nc:List Nat}(h:PS K w pb nb K' W vs cs ga ca gt ct fv N M fl E tk)(b:dX K2 W' Xp Xq gt' Xr Qi N' M' Nc E' tk')(t:aj (fun q=>q=r) K' W K2 W')(hr:7≤r∧r≤9):PS K w pb nb K2 W' vs cs Xp Xq gt' Xr Qi N' M' Nc E' tk':=
 ⟨t.obj h.row (by rw[h.kp];omega),b,(t.role h.row).trans h.kp,(t.role h.box).trans h.kn,t.obj h.box (by rw[h.kn];omega),h.aG.trans (t.mono (fun q hq=>⟨by omega,by omega⟩)),h.new⟩
theorem PS.M_{g c:Nat}(h:PS K w pb nb K' W vs cs ga ca gt ct fv N M fl E tk)(hq:bY W 171 5 (.slice (some ⟨ga,0,none⟩) N ca) N 1 E' g c W'):∃K2,PS K w pb nb K2 W' vs cs g c gt ct fv (N+1) M fl E' tk:=by
 obtain⟨b,t⟩:=h.b.M_ hq;exact⟨_,h.turn b t (by omega)⟩
theorem PS.Na{g c:Nat}{b:Bool}(h:PS K w pb nb K' W vs cs ga ca gt ct fv N M fl E tk)(hq:bY W 4 1 (.slice (some ⟨gt,0,none⟩) M ct) M 1 (fun q=>if q=M then[.bool b]else[.bool (tk q)]) g c W'):∃K2,PS K w pb nb K2 W' vs cs ga ca g c fv N (M+1) fl E (fun q=>if q=M then b else tk q):=by
 obtain⟨b,t⟩:=h.b.Na hq;exact⟨_,h.turn b t (by omega)⟩
theorem PS.CG{g c i:Nat}(h:PS K w pb nb K' W vs cs ga ca gt ct fv N M fl E tk)(hq:bY W 3 1 fv fl.length 1 (fun q=>if q=fl.length then[.int .i64 (i:Nat)]else[.int .i64 (fl.getD q 0:Nat)]) g c W'):∃K2,PS K w pb nb K2 W' vs cs ga ca gt ct (.slice (some ⟨g,0,none⟩) (fl.length+1) c) N M (fl++[i]) E tk:=by
 obtain⟨b,t⟩:=h.b.CG hq;exact⟨_,h.turn b t (by omega)⟩
theorem PS.setAt(h:PS K w pb nb K' W vs cs ga ca gt ct fv N M fl E tk){i:Nat}(hi:i<N){us:List Value}(hl:us.length=5):PS K w pb nb K' (W.setCells ga (i*5) us) vs cs ga ca gt ct fv N M fl (fun q=>if q=i then us else E q) tk:=by
 obtain⟨b,t⟩:=h.b.setAt hi hl;exact h.turn b t (by omega)
theorem PS.yF(h:PS K w pb nb K' W vs cs ga ca gt ct fv N M fl E tk){i:Nat}(hi:i<M)(b:Bool):PS K w pb nb K' (W.setCell ⟨gt,i,none⟩ (.bool b)) vs cs ga ca gt ct fv N M fl E (fun q=>if q=i then b else tk q):=by
 obtain⟨b,t⟩:=h.b.yF hi b;exact h.turn b t (by omega)
/-- The free slots,cut by one. -/
theorem PS.Xt{g c n n0:Nat}{Nc:List Nat}(h:PS K w pb nb K' W vs cs ga ca gt ct fv N M fl E tk)(hf:fv=.slice (some ⟨g,0,none⟩) n0 c)(hr:Rw W 3 1 Nc.length n g (fun i=>[.int .i64 (Nc.getD i 0:Nat)])){v:Value}(hv:v=.slice (some ⟨g,0,none⟩) Nc.length n):PS K w pb nb K' W vs cs ga ca gt ct v N M Nc E tk:=by
 subst hv;exact⟨h.row,⟨h.b.at',h.b.taken,.inr ⟨g,n,rfl,hr⟩,h.b.ka,h.b.kt,j4.of (h.b.kf g n0 c hf)⟩,h.kp,h.kn,h.box,h.aG,h.new⟩
/-- Cells of the pool's block. -/
theorem PS.cells(h:PS K w pb nb K' W vs cs ga ca gt ct fv N M fl E tk):(∀j v,vs[j]?=some v→W.cell? ⟨pb,j,none⟩=some v)∧(∀j,W.frozen? ⟨pb,j,none⟩=false)∧pb<W.heap.size∧(∀j v,cs[j]?=some v→W.cell? ⟨nb,j,none⟩=some v)∧(∀j,W.frozen? ⟨nb,j,none⟩=false)∧nb<W.heap.size∧nb≠pb:=
 ⟨fun j v hj=>au h.row j hj,jv h.row,aV h.row,fun j v hj=>au h.box j hj,jv h.box,aV h.box,h.ne⟩
end
end
/-- What Take leaves. -/
def Sw(K:Nat→Nat)(w:World)(pb room:Nat)(S:Bd.St)(d:Bd.Nd)(x:Ending)(w':World):Prop:=
 (S.full room∧x=.returned (.tuple #[.int .i64 0,.int .i64 7])∧Below w.heap.size w w') ∨
 (¬S.full room∧x=.returned (.tuple #[.int .i64 (S.slot:Nat),.int .i64 0])∧∃K' ga ca gt ct fv,aY K' w' pb ga ca gt ct fv room (S.add d)∧aj pR K w K' w')
/-- Ahead of the node's two stores. -/
def vP(K:Nat→Nat)(w:World)(pb room:Nat)(S:Bd.St)(nb:Nat)(cs:Array Value)(W:World):Prop:=
 ∃N' K' ga ca gt ct fv E tk,N'=(if S.free=[]then S.N+1 else S.N)∧PS K w pb nb K' W #[.int .i64 (room:Nat),.slice (some ⟨ga,0,none⟩) N' ca,.slice (some ⟨gt,0,none⟩) N' ct,fv,.int .i64 (S.many:Nat)] cs ga ca gt ct fv N' N' S.free.dropLast E tk∧(∀i,i<S.N→E i=bC S i∧tk i=(S.nd i).isSome)∧∀i,i<N'→(E i).length=5
theorem vP.mk{K:Nat→Nat}{w:World}{pb room nb:Nat}{S:Bd.St}{cs vs:Array Value}{W:World}{N':Nat}{K':Nat→Nat}{ga ca gt ct:Nat}{fv:Value}{fl:List Nat}{E:Nat→List Value}{tk:Nat→Bool}(hN:N'=(if S.free=[]then S.N+1 else S.N))(h:PS K w pb nb K' W vs cs ga ca gt ct fv N' N' fl E tk)(hv:vs=#[.int .i64 (room:Nat),.slice (some ⟨ga,0,none⟩) N' ca,.slice (some ⟨gt,0,none⟩) N' ct,fv,.int .i64 (S.many:Nat)])(hfl:fl=S.free.dropLast)
 (hE:∀i,i<S.N→E i=bC S i∧tk i=(S.nd i).isSome) (hL:∀i,i<N'→(E i).length=5):vP K w pb room S nb cs W:=by
 subst hv hfl;exact⟨N',K',ga,ca,gt,ct,fv,E,tk,hN,h,hE,hL⟩
theorem CJ(S:Bd.St)(d:Bd.Nd):(S.add d).N=if S.free=[]then S.N+1 else S.N:=rfl
theorem vP.done{K:Nat→Nat}{w:World}{pb room nb:Nat}{S:Bd.St}{cs vs:Array Value}{W':World}{d:Bd.Nd}{K':Nat→Nat}{ga ca gt ct N':Nat}{fv:Value}{E:Nat→List Value}{tk:Nat→Bool}
 (h:PS K w pb nb K' W' vs cs ga ca gt ct fv N' N' S.free.dropLast (fun q=>if q=S.slot then[.int .i64 (S.slot:Nat),.int .i64 (d.v:Nat),.int .i64 (d.lo:Nat),.int .i64 (d.hi:Nat),.int .i64 0]else E q) (fun q=>if q=S.slot then true else tk q))
 (hN1:N'=(S.add d).N) (hv:vs=#[.int .i64 (room:Nat),.slice (some ⟨ga,0,none⟩) N' ca,.slice (some ⟨gt,0,none⟩) N' ct,fv,.int .i64 ((S.add d).many:Nat)])
 (hE:∀i,i<S.N→E i=bC S i∧tk i=(S.nd i).isSome) (hroom:room≤1048576) (hN:S.N≤1048576∨S.free≠[]∧S.N≤1048577) (hs:0<S.slot∧S.slot<N') (hS:S.free=[]→S.slot=S.N) (hnz:∀i,S.nd i≠none→0<i∧i<S.N):aY K' W' pb ga ca gt ct fv room (S.add d)∧aj pR K w K' W':=by
 subst hN1 hv
 have hlt:∀q,q<(S.add d).N→q≠S.slot→q<S.N:=fun q hq hne=>by
  rw[CJ]at hq
  split at hq
  ·rename_i h1;have:=hS h1;omega
  ·exact hq
 refine⟨⟨h.row,h.b.congr (fun q hq=>?_) (fun q hq=>?_),by rw[CJ];split<;>simp_all<;>omega,fun q hq=>?_,h.kp⟩,h.aG⟩
 ·by_cases e:q=S.slot
  ·rw[if_pos e,e];simp only[bC,Bd.St.add,Bd.set1,if_true];rfl
  ·rw[if_neg e,(hE q (hlt q hq e)).1];simp only[bC,Bd.St.add,Bd.set1,if_neg e]
 ·by_cases e:q=S.slot
  ·rw[if_pos e];simp only[Bd.St.add,Bd.set1,if_pos e];rfl
  ·rw[if_neg e,(hE q (hlt q hq e)).2];simp only[Bd.St.add,Bd.set1,if_neg e]
 ·by_cases e:q=S.slot
  ·rw[e];exact hs
  ·simp only[Bd.St.add,Bd.set1,if_neg e]at hq;have:=hnz q hq;refine⟨this.1,?_⟩;rw[CJ];split<;>omega
theorem Jp{K:Nat→Nat}{w:World}{pb ga ca gt ct room:Nat}{fv:Value}{S:Bd.St}(h:aY K w pb ga ca gt ct fv room S)(d:Bd.Nd)(hroom:room≤1048576)(hN:S.N≤room+1)(hfN:S.free.length<S.N)(hs0:0<S.slot)(hs1:S.free≠[]→S.slot<S.N)(hm:(S.add d).many=S.many+1) :
 Calls Tryz.prog 176 #[.pointer (some ⟨pb,0,none⟩),.agg #[.int .i64 0,.int .i64 (d.v:Nat),.int .i64 (d.lo:Nat),.int .i64 (d.hi:Nat),.int .i64 0]] w (Sw K w pb room S d):=by
 obtain⟨F,HF⟩:=aJ (Sw K w pb room S d);rw[←HF];have HB:=h.big;obtain⟨W,hW⟩:∃W,W=w.alloc (.cells #[.int .i64 0,.int .i64 (d.v:Nat),.int .i64 (d.lo:Nat),.int .i64 (d.hi:Nat),.int .i64 0] 171):=⟨_,rfl⟩;have HB0:Hid (Below w.heap.size w W):=by rw[hW];exact(Below.refl _ w).alloc (Nat.le_refl w.heap.size) _
 have hb0:Below w.heap.size w W:=by rw[hW];exact(Below.refl _ w).alloc (Nat.le_refl w.heap.size) _
 have t0:aj pR K w (bJ K w.heap.size 0) W:=(aj.of_below hb0).new (Nat.le_refl _);have h1:=h.aG (R:=fun _=>False) ((aj.of_below hb0).new (g:=w.heap.size) (r:=0) (Nat.le_refl _)) (fun _ h=>h.elim);have hk0:bJ K w.heap.size 0 w.heap.size=0:=aW _ _ _
 generalize bJ K w.heap.size 0=K0 at t0 h1 hk0
 have hbx:W.heap[w.heap.size]?=some (.cells #[.int .i64 0,.int .i64 (d.v:Nat),.int .i64 (d.lo:Nat),.int .i64 (d.hi:Nat),.int .i64 0] 171 (0,0)):=by rw[hW];exact heap_alloc_new _ _
 have hsl0:S.free=[]→S.slot=S.N:=fun h=>by unfold Bd.St.slot;rw[h];rfl
 have hsl1:∀g cap,fv=.slice (some ⟨g,0,none⟩) S.free.length cap→S.free≠[]→W.cell? ⟨g,S.free.length-1,none⟩=some (.int .i64 (S.slot:Nat))∧Rw W 3 1 S.free.dropLast.length (S.free.length-1) g (fun i=>[.int .i64 (S.free.dropLast.getD i 0:Nat)]):=fun g cap hf hne=>by
  have hpos:0<S.free.length:=List.length_pos_iff.2 hne
  rcases h1.b.free with⟨e1,-⟩|⟨g',c',e1,e2⟩
  ·rw[hf]at e1;cases e1
  ·rw[hf]at e1;cases e1
   constructor
   ·have:=e2.cell (i:=S.free.length-1) (j:=0) (by omega) (by omega);simp only[Nat.mul_one,Nat.add_zero,List.getElem?_cons_zero]at this;rw[this];unfold Bd.St.slot;rw[List.getLast?_eq_getElem?];simp only[List.getD_eq_getElem?_getD,List.getElem?_eq_getElem (show S.free.length-1<S.free.length by omega),Option.getD_some]
   ·rw[List.length_dropLast];refine(e2.cut (m:=S.free.length-1) (by omega)).congr (fun q hq j hj=>?_);rw[List.getD_eq_getElem?_getD,List.getD_eq_getElem?_getD,List.getElem?_dropLast,if_pos hq]
 obtain⟨ao,cap,hfv,hao⟩:∃ao cap,fv=.slice ao S.free.length cap∧S.free.length≤cap∧(S.free.length=0∨∃g,ao=some ⟨g,0,none⟩):=by
  rcases h.b.free with⟨h1,h2⟩|⟨g,cap,h1,h2⟩
  ·exact⟨none,0,by rw[h1,h2],by omega,.inl h2⟩
  ·exact⟨_,cap,h1,h2.le,.inr ⟨g,rfl⟩⟩
 obtain⟨hcp,hao⟩:=hao;have hkf:=h1.b.kf;have hrow:=h1.row;rw[hfv]at hrow hsl1 hkf;have y0:=au hrow 0 rfl;have y1:=au hrow 1 rfl;have y2:=au hrow 2 rfl;have y3:=au hrow 3 rfl;have yz:=jv hrow;have HN':S.many≤1048577:=by unfold Bd.St.many;omega
 have HP:Hid (PS K w pb w.heap.size K0 W #[.int .i64 (room:Nat),.slice (some ⟨ga,0,none⟩) S.N ca,.slice (some ⟨gt,0,none⟩) S.N ct,fv,.int .i64 (S.many:Nat)] #[.int .i64 0,.int .i64 (d.v:Nat),.int .i64 (d.lo:Nat),.int .i64 (d.hi:Nat),.int .i64 0] ga ca gt ct fv S.N S.N S.free (bC S) (fun i=>(S.nd i).isSome)):=⟨h1.row,h1.b,h1.kp,hk0,hbx,t0,Nat.le_refl _⟩;have HNZ:=Lib.hid h1.nz;have HW:=Lib.hid hW;have dJ:=Lib.hid hbx;have HT0:=Lib.hid t0;have HK0:=Lib.hid hk0;have lU:=Lib.hid hsl0;have CK:=Lib.hid hsl1;have yG:=Lib.hid hm;have Nf:=Lib.hid hfv;have aaq:=Lib.hid hrow;have hlp:=aV hrow;have hlb:=aV hbx;have Ee:Hid (∀d,(S.add d).N≤S.N+1):=fun d=>by rw[CJ];split<;>omega
 obtain⟨m,HM⟩:=aJ S.free.length;rw[←HM]at hao y3 hfN Nf CK aaq hcp;have aar:=hs1;have HSS:Hid (S.free≠[]→S.slot<S.N):=hs1;clear hW hbx h h1 hb0 hrow t0 hk0 hsl0 hsl1 hm hfv hs1 aar;go_in
 go_upto_region 1 with fail
 rw[←HW]
 go_upto_if 15 with fail
 go_cut [4,5]from 7 (fun v u wc=>v=.int .i64 (S.slot:Nat)∧u=.int .i64 0∧¬S.full room∧vP K w pb room S w.heap.size #[.int .i64 0,.int .i64 (d.v:Nat),.int .i64 (d.lo:Nat),.int .i64 (d.hi:Nat),.int .i64 0] wc)
 case first=>
  by_cases hm0:m=0
  ·have aas:¬(0:Int)<(m:Int):=by omega
   have HF0:Hid (S.free=[]):=List.eq_nil_of_length_eq_zero (by rw[←HM];exact hm0);clear hm0
   by_cases hfull:room<S.N
   ·have hf':(room:Int)<(S.N:Int):=by omega
    go_wp2
    go_region
    go_wp2
    rw[HF];exact .inl ⟨⟨HF0,hfull⟩,rfl,HB0.drew⟩
   ·have hf':¬(room:Int)<(S.N:Int):=by omega
    go_wp2
    go_region
    go_wp2_with (first
     |(at_builtin;have Uc:=HP;clear HP;refine aA _ rfl _ _ _ rfl Xo rfl (.inr ⟨ga,ca,rfl,((Uc.far ((Below.refl _ _).alloc (Nat.le_refl _) _).drew).b.at')⟩) rfl (aL (by simp)) rfl (by simp[Value.oneCell']) (by omega) ?_;intro g1 c1 w1 hq1;obtain⟨K1,hp1⟩:=(Uc.far ((Below.refl _ _).alloc (Nat.le_refl _) _).drew).M_ hq1;obtain⟨ya,yb,yc,-,-,-,-⟩:=hp1.cells;have y1':=ya 1 _ rfl;have y2':=ya 2 _ rfl;have HQ1:=Lib.hid hp1;clear hp1 hq1 ya Uc)
     |(at_builtin;have Uc:=HQ1;clear HQ1;refine aA _ rfl _ _ _ rfl Jo rfl (.inr ⟨gt,ct,rfl,(((Uc.set 1 _).alloc _).b.taken)⟩) rfl (aL (by simp)) rfl (by simp[Value.oneCell']) (by omega) ?_;intro g2 c2 w2 hq2;obtain⟨K2,hp2⟩:=((Uc.set 1 _).alloc _).Na hq2;obtain⟨ya,yb,yc,-,-,-,-⟩:=hp2.cells;have abK:=ya 1 _ rfl;have abL:=ya 2 _ rfl;have Po:=Lib.hid hp2;clear hp2 hq2 ya Uc))
    go_meet
    case rel=>
     refine⟨by rw[lU HF0],rfl,fun h9=>hfull h9.2,vP.mk (if_pos HF0.out).symm (Po.set 2 (.slice (some ⟨g2,0,none⟩) (S.N+1) c2)) ?_ (by rw[HF0];rfl) (fun i hi=>⟨if_neg (by omega),if_neg (by omega)⟩) (fun i hi=>?_)⟩
     ·rfl
     ·split
      ·rfl
      ·exact dZ S i
  ·have aas:(0:Int)<(m:Int):=by omega
   have hm1:m-1+1=m:=by omega
   have Sy:Hid (S.free≠[]):=fun e=>hm0 (by rw[HM,e];rfl);obtain⟨g,rfl⟩:=hao.resolve_left hm0;obtain⟨z1,r1⟩:=CK g cap rfl Sy;have hc1:(m:Int)-1≤(cap:Int):=by omega
   have HR1:=Lib.hid r1;clear r1 hm1
   go_wp2
   go_meet
   case rel=>
    have hl:S.free.dropLast.length=m-1:=by rw[List.length_dropLast,←HM]
    have h9:=HP.set 3 (.slice (some ⟨g,0,none⟩) (m-1) (m-1));rw[Nf]at h9;refine⟨rfl,rfl,fun h9=>Sy h9.1,vP.mk (if_neg Sy.out).symm (h9.Xt (Nc:=S.free.dropLast) rfl ?_ (by rw[hl])) rfl rfl (fun i hi=>⟨rfl,rfl⟩) (fun i _=>dZ S i)⟩;have h8:=HR1.out;rw[hl]at h8⊢
    have k9:K0 g=9:=by
     have h7:=HP.b.kf;rw[Nf]at h7;exact h7 g _ _ rfl
    have k6:=HP.kp;exact h8.kept (heap_setCell_other _ _ _ _ (fun(e9:g=pb)=>by rw[e9]at k9;omega))
 case rest=>
  obtain⟨rfl,rfl,hnf,hT⟩:=hcut;obtain⟨N',K1,g1,c1,g2,c2,fv1,E1,tk1,hN1,hp1,hE1,hL1⟩:=hT
  have hsl:S.slot<N':=by
   rw[hN1];split
   ·rename_i h9;rw[lU h9];omega
   ·rename_i h9;exact HSS h9
  have hNb:N'≤1048578:=by rw[hN1];split<;>omega
  have hsI:(S.slot:Int)<(N':Int):=by omega
  have hp2:=hp1.put 0 (.int .i64 (S.slot:Nat));obtain⟨wx,hwx⟩:=wX (wc.setCell ⟨w.heap.size,0,none⟩ (.int .i64 (S.slot:Nat)));rw[←hwx]at hp2;obtain⟨ya,yb,yc,yd,ye,yf,yg⟩:=hp1.cells;have x0:=yd 0 _ rfl;clear ya yb yd;obtain⟨ya,yb,-,yd,-,-,-⟩:=hp2.cells;have y1':wx.cell? ⟨pb,1,none⟩=some (.slice (some ⟨g1,0,none⟩) N' c1):=ya 1 _ rfl;have y2':wx.cell? ⟨pb,2,none⟩=some (.slice (some ⟨g2,0,none⟩) N' c2):=ya 2 _ rfl;have y4':wx.cell? ⟨pb,4,none⟩=some (.int .i64 (S.many:Nat)):=ya 4 _ rfl;have Ud:wx.cell? ⟨w.heap.size,0,none⟩=some (.int .i64 (S.slot:Nat)):=yd 0 _ rfl;have x1':wx.cell? ⟨w.heap.size,1,none⟩=some (.int .i64 (d.v:Nat)):=yd 1 _ rfl;have x2':wx.cell? ⟨w.heap.size,2,none⟩=some (.int .i64 (d.lo:Nat)):=yd 2 _ rfl;have x3':wx.cell? ⟨w.heap.size,3,none⟩=some (.int .i64 (d.hi:Nat)):=yd 3 _ rfl;have x4':wx.cell? ⟨w.heap.size,4,none⟩=some (.int .i64 0):=yd 4 _ rfl;obtain⟨u0,z0⟩:=hp2.b.at'.some hL1 (j:=0) hsl (by omega);obtain⟨u1,z1⟩:=hp2.b.at'.some hL1 (j:=1) hsl (by omega);obtain⟨u2,z2⟩:=hp2.b.at'.some hL1 (j:=2) hsl (by omega);obtain⟨u3,z3⟩:=hp2.b.at'.some hL1 (j:=3) hsl (by omega);obtain⟨u4,z4⟩:=hp2.b.at'.some hL1 (j:=4) hsl (by omega);obtain⟨u5,z5⟩:=hp2.b.taken.some (fun _ _=>rfl) (j:=0) hsl (by omega);simp only[Nat.mul_one,Nat.add_zero]at z0 z5;have zf:=hp2.b.at'.frozen;have zg:=hp2.b.taken.frozen
  have gne:g1≠g2:=fun e=>by have h1:=hp2.b.ka;have h2:=hp2.b.kt;rw[e]at h1;omega
  have pne:pb≠g1:=fun e=>by have h1:=hp2.b.ka;have h2:=hp2.kp;rw[e]at h2;omega
  have aat:pb≠g2:=fun e=>by have h1:=hp2.b.kt;have h2:=hp2.kp;rw[e]at h2;omega
  have HWX:=Lib.hid hwx;have HP2:=Lib.hid hp2;have Ue:=Lib.hid hE1;have HN1:=Lib.hid hN1;clear hp1 hp2 hwx ya yd hE1 hL1 hN1 hkf y0 y1 y2 y3 yz
  go_upto_region 13 with fail
  rw[←HWX]
  go_region
  have hmw:(S.many:Int)+1≤1048578:=by omega
  go_wp2
  rw[HF];have h3:=(((HP2.setAt (us:=[.int .i64 (S.slot:Nat),.int .i64 (d.v:Nat),.int .i64 (d.lo:Nat),.int .i64 (d.hi:Nat),.int .i64 0]) hsl rfl).yF hsl true).set 4 (.int .i64 ((S.many:Nat)+1))).drew;have h8:=vP.done (d:=d) h3 (HN1.trans (CJ S d).symm) ?_ Ue hroom ?_ ⟨hs0,hsl⟩ lU HNZ
  ·exact .inr ⟨hnf,rfl,K1,g1,c1,g2,c2,fv1,h8.1,h8.2⟩
  ·rw[yG];rfl
  ·by_cases e:S.free=[]
   ·left
    have:¬room<S.N:=fun h9=>hnf ⟨e,h9⟩;omega
   ·exact .inr ⟨e,HB⟩
section
structure PT(K:Nat→Nat)(w:World)(pb:Nat)(K':Nat→Nat)(W:World)(vs:Array Value)(ga ca gt ct:Nat)(fv:Value)(N M:Nat)(fl:List Nat)(E:Nat→List Value)(tk:Nat→Bool):Prop where
 row:W.heap[pb]?=some (.cells vs 208 (0,0))
 b:dX K' W ga ca gt ct fv N M fl E tk
 kp:K' pb=6
 aG:aj pR K w K' W
section
variable {K K':Nat→Nat} {w W W':World} {pb ga ca gt ct N M:Nat} {vs:Array Value} {fv:Value} {fl:List Nat} {E E':Nat→List Value} {tk tk':Nat→Bool}
theorem PT.set(h:PT K w pb K' W vs ga ca gt ct fv N M fl E tk)(j:Nat)(v:Value):PT K w pb K' (W.setCell ⟨pb,j,none⟩ v) (vs.setIfInBounds j v) ga ca gt ct fv N M fl E tk:=by
 have t:aj (fun r=>r=6) K' W K' (W.setCell ⟨pb,j,none⟩ v):=aj.refl.iI h.kp (aV h.row) _;exact⟨aH h.row v,h.b.aG t (fun r hr=>by omega),h.kp,h.aG.trans (t.mono (fun r hr=>⟨by omega,by omega⟩))⟩
theorem PT.far(h:PT K w pb K' W vs ga ca gt ct fv N M fl E tk)(hb:Below W.heap.size W W'):PT K w pb K' W' vs ga ca gt ct fv N M fl E tk:=
 ⟨(hb.block _ (aV h.row)).trans h.row,h.b.far hb,h.kp,h.aG.trans (aj.of_below hb)⟩
theorem PT.drew(h:PT K w pb K' W vs ga ca gt ct fv N M fl E tk):PT K w pb K' W.drew vs ga ca gt ct fv N M fl E tk:=h.far (Below.refl _ _).drew
theorem PT.alloc(h:PT K w pb K' W vs ga ca gt ct fv N M fl E tk)(o:Obj):PT K w pb K' (W.alloc o) vs ga ca gt ct fv N M fl E tk:=h.far ((Below.refl _ _).alloc (Nat.le_refl _) o)
theorem PT.turn{r:Nat}{K2:Nat→Nat}{Xp Xq gt' Xr N' M':Nat}{Qi:Value}{Nc:List Nat}(h:PT K w pb K' W vs ga ca gt ct fv N M fl E tk)(b:dX K2 W' Xp Xq gt' Xr Qi N' M' Nc E' tk')(t:aj (fun q=>q=r) K' W K2 W')(hr:7≤r∧r≤9):PT K w pb K2 W' vs Xp Xq gt' Xr Qi N' M' Nc E' tk':=
 ⟨t.obj h.row (by rw[h.kp];omega),b,(t.role h.row).trans h.kp,h.aG.trans (t.mono (fun q hq=>⟨by omega,by omega⟩))⟩
theorem PT.CG{g c i:Nat}(h:PT K w pb K' W vs ga ca gt ct fv N M fl E tk)(hq:bY W 3 1 fv fl.length 1 (fun q=>if q=fl.length then[.int .i64 (i:Nat)]else[.int .i64 (fl.getD q 0:Nat)]) g c W'):∃K2,PT K w pb K2 W' vs ga ca gt ct (.slice (some ⟨g,0,none⟩) (fl.length+1) c) N M (fl++[i]) E tk:=by
 obtain⟨b,t⟩:=h.b.CG hq;exact⟨_,h.turn b t (by omega)⟩
theorem PT.setAt(h:PT K w pb K' W vs ga ca gt ct fv N M fl E tk){i:Nat}(hi:i<N){us:List Value}(hl:us.length=5):PT K w pb K' (W.setCells ga (i*5) us) vs ga ca gt ct fv N M fl (fun q=>if q=i then us else E q) tk:=by
 obtain⟨b,t⟩:=h.b.setAt hi hl;exact h.turn b t (by omega)
theorem PT.yF(h:PT K w pb K' W vs ga ca gt ct fv N M fl E tk){i:Nat}(hi:i<M)(b:Bool):PT K w pb K' (W.setCell ⟨gt,i,none⟩ (.bool b)) vs ga ca gt ct fv N M fl E (fun q=>if q=i then b else tk q):=by
 obtain⟨b,t⟩:=h.b.yF hi b;exact h.turn b t (by omega)
theorem PT.cells(h:PT K w pb K' W vs ga ca gt ct fv N M fl E tk):(∀j v,vs[j]?=some v→W.cell? ⟨pb,j,none⟩=some v)∧(∀j,W.frozen? ⟨pb,j,none⟩=false)∧pb<W.heap.size:=
 ⟨fun j v hj=>au h.row j hj,jv h.row,aV h.row⟩
end
/-- A slot is released. -/
def rel(S:Bd.St)(i:Nat):Bd.St:={S with nd:=Bd.set1 S.nd i none,free:=S.free++[i]}
theorem Jq{K:Nat→Nat}{w:World}{pb ga ca gt ct room:Nat}{fv:Value}{S:Bd.St}(h:aY K w pb ga ca gt ct fv room S)(i:Nat)(d:Bd.Nd)(hd:S.nd i=some d)(hm:(rel S i).many+1=S.many)(hfl:S.free.length≤1048577) :
 Calls Tryz.prog 178 #[.pointer (some ⟨pb,0,none⟩),.int .i64 (i:Nat)] w fun x w'=>x=.returned (.int .i64 0)∧∃K' Qi,aY K' w' pb ga ca gt ct Qi room (rel S i)∧aj pR K w K' w':=by
 have HB:=h.big;obtain⟨i0,i1⟩:=h.nz i (by rw[hd];simp);obtain⟨F,HF⟩:=aJ (fun(x:Ending)(w':World)=>x=.returned (.int .i64 0)∧∃K' Qi,aY K' w' pb ga ca gt ct Qi room (rel S i)∧aj pR K w K' w');rw[←HF];have c1:=z_ h i (by omega);rw[hd]at c1;simp only[Option.isSome_some]at c1;have Xn:(i:Int)<(S.N:Int):=by omega
 obtain⟨ya,yb,yc⟩:=(show PT K w pb K w #[.int .i64 (room:Nat),.slice (some ⟨ga,0,none⟩) S.N ca,.slice (some ⟨gt,0,none⟩) S.N ct,fv,.int .i64 (S.many:Nat)] ga ca gt ct fv S.N S.N S.free (bC S) (fun i=>(S.nd i).isSome)from⟨h.row,h.b,h.kp,aj.refl⟩).cells;have y1:w.cell? ⟨pb,1,none⟩=some (.slice (some ⟨ga,0,none⟩) S.N ca):=ya 1 _ rfl;have y2:w.cell? ⟨pb,2,none⟩=some (.slice (some ⟨gt,0,none⟩) S.N ct):=ya 2 _ rfl;have y3:w.cell? ⟨pb,3,none⟩=some fv:=ya 3 _ rfl;have y4:w.cell? ⟨pb,4,none⟩=some (.int .i64 (S.many:Nat)):=ya 4 _ rfl;obtain⟨u0,z0⟩:=h.at'.some (fun i _=>dZ S i) (j:=0) i1 (by omega);obtain⟨u1,z1⟩:=h.at'.some (fun i _=>dZ S i) (j:=1) i1 (by omega);obtain⟨u2,z2⟩:=h.at'.some (fun i _=>dZ S i) (j:=2) i1 (by omega);obtain⟨u3,z3⟩:=h.at'.some (fun i _=>dZ S i) (j:=3) i1 (by omega);obtain⟨u4,z4⟩:=h.at'.some (fun i _=>dZ S i) (j:=4) i1 (by omega);obtain⟨u5,z5⟩:=h.taken.some (fun _ _=>rfl) (j:=0) i1 (by omega);simp only[Nat.mul_one,Nat.add_zero]at z0 z5;have zf:=h.at'.frozen;have zg:=h.taken.frozen;have gne:ga≠gt:=fun e=>by have h1:=h.b.ka;have h2:=h.b.kt;rw[e]at h1;omega
 have pne:pb≠ga:=fun e=>by have h1:=h.b.ka;have h2:=h.kp;rw[e]at h2;omega
 have aat:pb≠gt:=fun e=>by have h1:=h.b.kt;have h2:=h.kp;rw[e]at h2;omega
 have hma:(1:Int)≤(S.many:Int):=by omega
 have hmb:S.many≤1048577:=by unfold Bd.St.many;omega
 have HP:Hid (PT K w pb K w #[.int .i64 (room:Nat),.slice (some ⟨ga,0,none⟩) S.N ca,.slice (some ⟨gt,0,none⟩) S.N ct,fv,.int .i64 (S.many:Nat)] ga ca gt ct fv S.N S.N S.free (bC S) (fun i=>(S.nd i).isSome)):=⟨h.row,h.b,h.kp,aj.refl⟩;have HNZ:=Lib.hid h.nz;have yG:=Lib.hid hm;have Qj:=Lib.hid hfl;obtain⟨fl,HL⟩:=aJ S.free;obtain⟨Nn,HNn⟩:=aJ S.N;obtain⟨m,HMm⟩:=aJ S.many;rw[←HNn]at y1 y2 HB Xn i1;rw[←HMm]at hma hmb y4;clear ya hd h hm hfl;go_in
 go_upto_region 3 with(go_at_call 154;refine c1.mono ?_;rintro x w' ⟨rfl,hww⟩;rw[hww];clear hww)
 go_region
 obtain⟨W1,HW1⟩:=aJ (((w.setCells ga (i*5) [.int .i64 0,.int .i64 0,.int .i64 0,.int .i64 0,.int .i64 0]).setCell ⟨gt,i,none⟩ (.bool false)).drew);have h3:=((HP.setAt (us:=[.int .i64 0,.int .i64 0,.int .i64 0,.int .i64 0,.int .i64 0]) (by rw[←HNn];exact i1) rfl).yF (by rw[←HNn];exact i1) false).drew;rw[←HW1]at h3;obtain⟨ya,yb',yc'⟩:=h3.cells;have v3:W1.cell? ⟨pb,3,none⟩=some fv:=ya 3 _ rfl;have v4:W1.cell? ⟨pb,4,none⟩=some (.int .i64 (m:Nat)):=(ya 4 _ rfl).trans (by rw[HMm];rfl);have Wu:=Lib.hid h3;have Uf:=HW1;simp only[World.setCells]at Uf;clear h3 ya;rw[←Uf];clear Uf y1 y2 y3 y4 z0 z1 z2 z3 z4 z5 zf zg yb yc c1;have aau:S.free.length<1073741824:=by have:=Qj.out;omega
 go_wp2_with (at_builtin;have HQ:=Wu;clear Wu;refine aA _ rfl _ _ _ rfl jq rfl ((HQ.alloc _).b.free) rfl (aL (by simp)) rfl (by simp[Value.oneCell']) aau ?_;intro g2 c2 w2 hq2;obtain⟨K2,hp2⟩:=(HQ.alloc _).CG (i:=i) hq2;obtain⟨ya,abM,abN⟩:=hp2.cells;have abO:=ya 3 _ rfl;have abP:w2.cell? ⟨pb,4,none⟩=some (.int .i64 (m:Nat)):=(ya 4 _ rfl).trans (by rw[HMm];rfl);have Po:=Lib.hid hp2;clear hp2 hq2 ya)
 rw[HF];have h4:=(Po.set 3 (.slice (some ⟨g2,0,none⟩) (S.free.length+1) c2)).set 4 (.int .i64 ((m:Nat)-1));have hmm:=HMm.out;have hm0:=yG.out;refine⟨rfl,K2,.slice (some ⟨g2,0,none⟩) (S.free.length+1) c2,⟨?_,?_,?_,?_,h4.kp⟩,h4.aG⟩
 ·rw[show((rel S i).many:Nat)=m-1 by omega,show(((m-1:Nat)):Int)=(m:Int)-1 by omega];exact h4.row
 ·have hr:(rel S i).free=S.free++[i]:=rfl;refine dX.congr (E:=fun q=>if q=i then[.int .i64 0,.int .i64 0,.int .i64 0,.int .i64 0,.int .i64 0]else bC S q) (tk:=fun q=>if q=i then false else(S.nd q).isSome) h4.b (fun q hq=>?_) (fun q hq=>?_)
  ·by_cases e:q=i
   ·subst e;simp only[bC,rel,Bd.set1,if_true]
   ·simp only[bC,rel,Bd.set1,if_neg e]
  ·by_cases e:q=i
   ·subst e;simp only[rel,Bd.set1,if_true];rfl
   ·simp only[rel,Bd.set1,if_neg e]
 ·have:=HNn.out;show S.N≤_;omega
 ·intro q hq
  by_cases e:q=i
  ·subst e;simp only[rel,Bd.set1,if_true]at hq;exact absurd rfl hq
  ·simp only[rel,Bd.set1,if_neg e]at hq;exact HNZ q hq
end
end Go.Proofs.YtpijlhlpejlhhaaGreat
