/- Walks and plain words: StN StO. -/
import Derived.Test.YtpijlhlpejlhhaaGreatVStM
namespace Go.Proofs.YtpijlhlpejlhhaaGreat
open Go.RowKit Go.Shelf
set_option linter.unusedVariables false
set_option maxRecDepth 100000
set_option maxHeartbeats 8000000
section
attribute [local go_sem] Oper.semAt_some
/-- What the rounds of a loop keep: all but one old block,and new blocks but cells of two kinds. -/
def SC(n0 b:Nat)(A B:TypeId)(k:Nat)(o:Obj):Prop:=(k<n0∧k≠b)∨(n0≤k∧∀cs T z,o=.cells cs T z→T≠A∧T≠B)
theorem lX{n0 b k:Nat}{A B:TypeId}(h:k<n0)(hk:k≠b)(o:Obj):SC n0 b A B k o:=.inl ⟨h,hk⟩
theorem Aj{n0 b k:Nat}{A B:TypeId}{o:Obj}(h:n0≤k)(ho:o.isCells=false):SC n0 b A B k o:=.inr ⟨h,fun cs T z e=>by rw[e]at ho;cases ho⟩
theorem Am{n0 b k:Nat}{A B T:TypeId}{v:Array Value}{z:Nat×Nat}(h:n0≤k)(h1:T≠A)(h2:T≠B):SC n0 b A B k (.cells v T z):=.inr ⟨h,fun cs T' z' e=>by cases e;exact⟨h1,h2⟩⟩
/-- The rows collected in a box. -/
structure gW(T A k n0 b:Nat)(w3 W:World)(n:Nat)(E:Nat→List Value):Prop where
 ex:∃v,W.heap[b]?=some (.cells #[v] T (0,0))∧Sl W A k v n E∧∀g n c,v=.slice (some ⟨g,0,none⟩) n c→n0≤g
 only:Only (fun q=>q=b) w3 W
 lt:b<n0
section
variable {T A k n0 b n:Nat} {w3 W W':World} {E:Nat→List Value}
theorem gW.grown(h:gW T A k n0 b w3 W n E)(h3:w3.heap.size=n0){row:Option Nat}(hg:W.grownBy W' row)(hr:∀r,row=some r→n0≤r∧∃o:Obj,W.heap[r]?=some o∧o.isCells=false):gW T A k n0 b w3 W' n E:=by
 obtain⟨v,h1,h2,h4⟩:=h.ex;refine⟨⟨v,(hg.block b (aV h1) (fun e=>by have:=(hr _ e.symm).1;have:=h.lt;omega)).trans h1,?_,h4⟩,?_,h.lt⟩
 ·refine h2.kept (fun g m c e hg'=>hg.block g hg' (fun e2=>?_));obtain⟨-,cs,z,h6⟩:=h2.blk (q:=g) (by rw[e];rfl);obtain⟨-,o,h7,h8⟩:=hr _ e2.symm;rw[h6]at h7;cases h7;cases h8
 ·refine⟨hg.os.trans h.only.os,hg.tape.trans h.only.tape,hg.output.trans h.only.output,Nat.le_trans h.only.size hg.size,fun q hq hne=>?_⟩;exact(hg.block q (Nat.lt_of_lt_of_le hq h.only.size) (fun e=>by have:=(hr _ e.symm).1;omega)).trans (h.only.block q hq hne)
theorem gW.below(h:gW T A k n0 b w3 W n E)(h3:w3.heap.size=n0)(hb:Below W.heap.size W W'):gW T A k n0 b w3 W' n E:=
 h.grown h3 (row:=none) ⟨hb.os,hb.tape,hb.output,hb.size,fun q hq _=>hb.block q hq⟩ (fun r e=>by cases e)
theorem gW.far(h:gW T A k n0 b w3 w3 n E)(hb:Below w3.heap.size w3 W)(h3:w3.heap.size=n0):gW T A k n0 b w3 W n E:=h.below h3 hb
theorem gW.congr{E':Nat→List Value}(h:gW T A k n0 b w3 W n E)(he:∀i,i<n→E' i=E i):gW T A k n0 b w3 W n E':=by
 obtain⟨v,e1,e2,e3⟩:=h.ex;exact⟨⟨v,e1,e2.congr (fun i hi j _=>by rw[he i hi]),e3⟩,h.only,h.lt⟩
theorem gW.step{v:Value}{g cap:Nat}{Wa W4:World}{cs:List Value}(h:gW T A k n0 b w3 W n E)(h3:w3.heap.size=n0)(hv:W.heap[b]?=some (.cells #[v] T (0,0)))(ha:Below W.heap.size W Wa)
 (hq:bY Wa A k v n 1 (fun q=>if q=n then cs else E q) g cap W4) :
 gW T A k n0 b w3 (W4.setCell ⟨b,0,none⟩ (.slice (some ⟨g,0,none⟩) (n+1) cap)) (n+1) (fun q=>if q=n then cs else E q)∧Kx (SC n0 b T A) W (W4.setCell ⟨b,0,none⟩ (.slice (some ⟨g,0,none⟩) (n+1) cap))∧W4.heap[b]?=some (.cells #[v] T (0,0)):=by
 have hb:=h.below h3 ha;obtain⟨v',e1,e2,e3⟩:=h.ex;rw[hv]at e1;obtain rfl:v=v':=by cases e1;rfl
 have hlt:=h.lt
 have own:∀q,v.ownBlock=some q→n0≤q∧∃cs z,W.heap[q]?=some (.cells cs A z):=fun q e=>by
  obtain⟨⟨cap',f1⟩,f2⟩:=e2.blk e;exact⟨e3 _ _ _ f1,f2⟩
 have hbn:¬(v.ownBlock=some b):=fun e=>by have:=(own b e).1;omega
 have b4:W4.heap[b]?=some (.cells #[v] T (0,0)):=(hq.only.block b (aV ((ha.block _ (aV hv)).trans hv)) hbn).trans ((ha.block _ (aV hv)).trans hv)
 have hgb:n0≤g:=by
  rcases hq.at' with f|f
  ·exact(own g f).1
  ·have:=hb.only.size;omega
 have gb:b≠g:=fun e=>by omega
 have Fa:∀q,q≠b→(W4.setCell ⟨b,0,none⟩ (.slice (some ⟨g,0,none⟩) (n+1) cap)).heap[q]?=W4.heap[q]?:=fun q hq=>by
  simp[World.setCell,Array.getElem?_modify,Ne.symm hq]
 refine⟨⟨⟨_,aH b4 _,?_,fun g' n' c' e=>by cases e;exact hgb⟩,⟨hq.only.os.trans hb.only.os,hq.only.tape.trans hb.only.tape,hq.only.output.trans hb.only.output,?_,fun q hq' hne=>?_⟩,hlt⟩,⟨?_,fun q o hqo hp=>?_⟩,b4⟩
 ·exact .inr ⟨g,cap,rfl,hq.row.kept (Fa g (fun e=>gb e.symm))⟩
 ·have:=hb.only.size;have:=hq.only.size;simp[World.setCell];omega
 ·rw[Fa q hne];exact(hq.only.block q (Nat.lt_of_lt_of_le hq' hb.only.size) (fun e=>by have:=(own q e).1;omega)).trans (hb.only.block q hq' hne)
 ·have:=ha.size;have:=hq.only.size;simp[World.setCell];omega
 ·have XG:q≠b:=by
   rcases hp with hp|hp
   ·exact hp.2
   ·omega
  rw[Fa q XG];refine(hq.only.block q (Nat.lt_of_lt_of_le (aV hqo) ha.size) (fun e=>?_)).trans ((ha.block q (aV hqo)).trans hqo);obtain⟨f1,cs',z,f2⟩:=own q e
  rcases hp with hp|hp
  ·omega
  ·rw[hqo]at f2;cases f2;exact(hp.2 _ _ _ rfl).2 rfl
end
end
section
attribute [local go_sem] Oper.semAt_some
section
variable {sb n room:Nat} {S:Bd.St} {ah:Nat→Nat} {ord:List Nat} {ext:Nat→Int}
theorem NH{S:Bd.St}{i z:Nat}(h:(eu S S.N)[i]?=some z):z<S.N∧∃d,S.nd z=some d:=by
 have h1:=List.mem_of_getElem? h;unfold eu at h1;simp only[List.mem_filter,List.mem_range]at h1;exact⟨h1.1,Option.isSome_iff_exists.1 h1.2⟩
theorem Uw{R:Nat→Prop}{K K':Nat→Nat}{w W:World}{D:Nat}(t:aj R K w K' W)(hD:w.heap.size≤D)(o:Obj):aj R K w K' (W.putObj D o):=
 ⟨⟨t.only.os,t.only.tape,t.only.output,by have:=t.only.size;simp;omega,fun q hq hf=>(World.putObj_heap_other (by omega)).trans (t.only.block q hq hf)⟩,t.ext⟩
theorem QE{K:Nat→Nat}{W:World}{D:Nat}(hD:K D=0)(o:Obj):aj (fun r=>r=0) K W K (W.putObj D o):=
 ⟨⟨rfl,rfl,rfl,by simp,fun q hq hf=>World.putObj_heap_other (fun e=>hf (by rw[e];exact hD))⟩,fun _ _=>rfl⟩
theorem jA(hs:Bd.SI n room (fun _=>false) ext S)(hrm:room≤1048576)(he:∀i d,S.nd i=some d→d.v<n∧d.lo<4611686018427387904∧d.hi<4611686018427387904)(hnn:n≤1000000)
 (K:Nat→Nat) (w:World) (h:dG K w sb n room S ah ord) :
 Calls Tryz.prog 163 #[.pointer (some ⟨sb,0,none⟩)] w fun r w'=>(∃k:Nat,r=.returned (.int .i64 (k:Nat)))∧∃K',dG K' w' sb n room S.gc ah ord∧aj sR K w K' w':=by
 obtain⟨F,HF⟩:=aJ (fun(r:Ending)(w':World)=>(∃k:Nat,r=.returned (.int .i64 (k:Nat)))∧∃K',dG K' w' sb n room S.gc ah ord∧aj sR K w K' w');rw[←HF];have HH0:=Lib.hid h;obtain⟨L,h⟩:=h;have y1:w.cell? ⟨sb,1,none⟩=some (.pointer (some ⟨L.pb,0,none⟩)):=au h.row 1 rfl;have y4:w.cell? ⟨sb,4,none⟩=some (.int .i64 S.dead):=au h.row 4 rfl;have lsb:=aV h.row;have HH:=Lib.hid h;have HS:=Lib.hid hs;have HE:=Lib.hid he;clear h hs he;refine(callsIn_wide (n:=20)).1 (callsIn_of_wp_marks Tryz.func163 rfl trivial ?_ rfl);simp only[Tryz.ntmps163,List.size_toArray,List.length_cons,List.length_nil,Nat.reduceAdd,Nat.reduceSub,Array.replicate_succ,Array.replicate_zero,List.push_toArray,List.append_toArray,List.nil_append,List.cons_append]
 by_cases hd:S.dead=0
 ·have HD:=Lib.hid hd;rw[hd]at y4;clear hd
  gi_wp2
  refine⟨_,results_tmp rfl _ _ _,?_⟩;rw[HF];have hb:Below w.heap.size w (w.alloc (.cells #[.pointer (some ⟨sb,0,none⟩)] 113)):=(Below.refl _ w).alloc (Nat.le_refl _) _;refine⟨⟨0,rfl⟩,K,?_,aj.of_below hb⟩;rw[show S.gc=S from by unfold Bd.St.gc;rw[if_pos HD.out]];exact⟨L,HH.below hb⟩
 ·obtain⟨x,hx⟩:∃x:Int,x=S.dead:=⟨_,rfl⟩;rw[←hx]at y4 hd;have HD:=Lib.hid (And.intro hx hd);clear hx;have cE:=JL (w:=(w.alloc (.cells #[.pointer (some ⟨sb,0,none⟩)] 113)).alloc (.cells #[.slice none 0 0] 206)) (pb:=L.pb)
  gi_wp2_with (refine⟨trivial,?_⟩;gi_at_call 177;refine(callsIn_wide.2 cE).mono ?_;rintro e w' ⟨rfl,rfl⟩)
  obtain⟨W0,hW0⟩:∃W0,((w.alloc (.cells #[.pointer (some ⟨sb,0,none⟩)] 113)).alloc (.cells #[.slice none 0 0] 206)).alloc (.cells #[.pointer (some ⟨L.pb,0,none⟩)] 174)=W0:=⟨_,rfl⟩;have hb1:Below w.heap.size w W0:=by rw[←hW0];exact(((Below.refl _ w).alloc (Nat.le_refl _) _).alloc (by simp) _).alloc (by simp;omega) _
  have hsz:W0.heap.size=w.heap.size+3:=by rw[←hW0];simp
  have o1:W0.heap[w.heap.size]?=some (.cells #[.pointer (some ⟨sb,0,none⟩)] 113 (0,0)):=by
   rw[←hW0];exact(Below.heap_alloc _ _ _ (by simp;omega)).trans ((Below.heap_alloc _ _ _ (by simp)).trans (heap_alloc_new _ _))
  have o2:W0.heap[w.heap.size+1]?=some (.cells #[.slice none 0 0] 206 (0,0)):=by
   rw[←hW0];exact(Below.heap_alloc _ _ _ (by simp)).trans (aL (by simp))
  have o3:W0.heap[w.heap.size+1+1]?=some (.cells #[.pointer (some ⟨L.pb,0,none⟩)] 174 (0,0)):=by
   rw[←hW0];exact aL (by simp)
  rw[hW0];clear hW0 cE;have HP:=Lib.hid (HH.pool.below hb1);have hpl:=aV HH.pool.row;have hga:=HH.pool.at'.lt;have hgt:=HH.pool.taken.lt;have HO:=Lib.hid (And.intro o1 (And.intro o2 o3));have HB1:=Lib.hid hb1;have Ux:gW 206 171 5 (w.heap.size+3) (w.heap.size+1) W0 W0 0 (fun j=>bC S (([]:List Nat).getD j 0)):=⟨⟨_,o2,Sl.nil,fun g n c e=>by cases e⟩,Only.refl,by omega⟩;clear o1 o2 o3 hb1
  refine ET (w0:=W0) (gf:=187) (lb:=#[.pointer (some ⟨w.heap.size+1+1,0,none⟩)]) rfl (enters_of Tryz.func187 (by kernel_rfl) rfl)
   (Uq (p:=SC (w.heap.size+3) (w.heap.size+1) 206 171) HP (by omega) HO.2.2 (lX (by omega) (by omega)) (lX (by omega) (by omega)) (lX (by omega) (by omega)) (lX (by omega) (by omega) _) (fun k o hk ho=>Aj (by omega) ho) (fun k v z hk=>Am (by omega) (by decide) (by decide)) (fun k v z hk=>Am (by omega) (by decide) (by decide)))
   (by omega) (Below.refl _ _) (fun _=>rfl) (fun k o hk ho=>Aj (by omega) ho)
   (fun i wr=>gW 206 171 5 (w.heap.size+3) (w.heap.size+1) W0 wr (((eu S S.N).take i).filter (fun i=>S.cnt i==0)).length (fun j=>bC S ((((eu S S.N).take i).filter (fun i=>S.cnt i==0)).getD j 0))) ?own ?start
   (fun i a' wr=>∃z B,(eu S S.N)[i]?=some z∧w.heap.size+3≤B∧wr.heap[B]?=some (.cells (bC S z).toArray 171 (0,0))∧a'={tmps:=#[.pointer (some ⟨sb,0,none⟩),.pointer (some ⟨w.heap.size,0,none⟩),.int .i64 0,.pointer (some ⟨w.heap.size+1,0,none⟩),.pointer (some ⟨B,0,none⟩),undef,undef,.pointer (some ⟨sb,0,none⟩),.bool false,.bool false,.pointer (some ⟨sb,0,none⟩),.pointer (some ⟨sb,0,none⟩),.pointer (some ⟨sb,4,none⟩),.int .i64 x,.bool false,.bool false,.pointer (some ⟨sb,0,none⟩),.pointer (some ⟨sb,0,none⟩),.pointer (some ⟨sb,1,none⟩),.pointer (some ⟨L.pb,0,none⟩),.func (.func 187) #[] #[.pointer (some ⟨w.heap.size+1+1,0,none⟩)],.agg (bC S z).toArray,undef,undef,undef,undef,undef,undef,undef,undef,undef,undef,undef,undef,undef,undef,undef,undef,undef,undef,undef,undef,undef,undef,undef,undef,undef,undef,undef,undef,undef,undef,undef,undef,undef,undef,undef,undef,undef,undef,undef,undef,undef,undef,undef,undef,undef],defers:=[]})
   ?Nv ?assign ?body ?done
  case own=>exact fun s A B row hs hg hr=>hs.grown hsz hg (fun r e=>⟨by have:=(hr r e).1;omega,(hr r e).2⟩)
  case start=>exact fun Y hY=>Ux.far hY hsz
  case Nv=>
   rintro i a' s A B row ⟨z,b,h1,h2,h3,h4⟩ hg hr;refine⟨z,b,h1,h2,(hg.block b (aV h3) (fun e=>?_)).trans h3,h4⟩;obtain⟨-,o,h5,h6⟩:=hr _ e.symm;rw[h3]at h5;cases h5;cases h6
  case assign=>
   rintro l i z W2 G hx hI hG;obtain⟨x1,d,hd⟩:=NH hx;have HN:=Lib.hid (show bC S z=[.int .i64 (z:Nat),.int .i64 (d.v:Nat),.int .i64 (d.lo:Nat),.int .i64 (d.hi:Nat),.int .i64 (S.refs z:Nat)]from by unfold bC;rw[hd]);have HG:=Lib.hid hG;have HI:=Lib.hid hI;clear hG hI;rw[HN]
   gi_wp2
   have hb2:Below W2.heap.size W2 (W2.alloc (.cells #[.int .i64 (z:Nat),.int .i64 (d.v:Nat),.int .i64 (d.lo:Nat),.int .i64 (d.hi:Nat),.int .i64 (S.refs z:Nat)] 171)):=(Below.refl _ _).alloc (Nat.le_refl _) _;refine HG _ _ (Kx.below hb2) (HI.below hsz hb2) ⟨z,W2.heap.size,hx,by rw[←hsz];exact HI.only.size,?_,?_⟩
   ·rw[HN];exact heap_alloc_new _ _
   ·rw[HN]
  case body=>
   rintro l i z' a' W2 hx hI ⟨z,B,hx',hB,Uy,rfl⟩;obtain rfl:z'=z:=by rw[hx']at hx;cases hx;rfl
   obtain⟨x1,d,hd⟩:=NH hx;have HN:=Lib.hid (show bC S z'=[.int .i64 (z':Nat),.int .i64 (d.v:Nat),.int .i64 (d.lo:Nat),.int .i64 (d.hi:Nat),.int .i64 (S.refs z':Nat)]from by unfold bC;rw[hd]);have hcn:z'<S.cn:=HS.cn z' (by rw[hd];simp);obtain⟨g0,c0,f1,f2,f3⟩:=HH.toStJ.slR (by omega);have hon:=hI.only;have kp:∀q,q<W0.heap.size→q≠w.heap.size+1→W2.heap[q]?=W0.heap[q]?:=fun q h1 h2=>hon.block q h1 h2;have m1:W2.cell? ⟨w.heap.size,0,none⟩=some (.pointer (some ⟨sb,0,none⟩)):=au ((kp _ (by omega) (by omega)).trans HO.1) 0 rfl;have rw2:W2.heap[sb]?=_:=(kp _ (by omega) (by omega)).trans ((HB1.block _ lsb).trans HH.row);have m2:W2.cell? ⟨sb,3,none⟩=some (.slice (some ⟨g0,0,none⟩) S.cn c0):=by rw[←f1];exact au rw2 3 rfl
   have hg0:=f2.lt;have m3:=(f2.kept ((kp _ (by omega) (by omega)).trans (HB1.block _ hg0))).cell (i:=z') (j:=0) hcn (by omega);rw[HH.Jr z' (by rw[hd];simp)]at m3;rw[HN]at Uy;have m4:W2.cell? ⟨B,0,none⟩=some (.int .i64 (z':Nat)):=au Uy 0 rfl;have m5:W2.cell? ⟨B,1,none⟩=some (.int .i64 (d.v:Nat)):=au Uy 1 rfl;have m6:W2.cell? ⟨B,2,none⟩=some (.int .i64 (d.lo:Nat)):=au Uy 2 rfl;have m7:W2.cell? ⟨B,3,none⟩=some (.int .i64 (d.hi:Nat)):=au Uy 3 rfl;have m8:W2.cell? ⟨B,4,none⟩=some (.int .i64 (S.refs z':Nat)):=au Uy 4 rfl;simp only[Nat.mul_one,Nat.add_zero,List.getElem?_cons_zero]at m3;have hzi:(z':Int)<(S.cn:Int):=by omega
   have abS:S.cn≤1048577:=by have:=HS.cN;have:=HS.Nr;omega
   obtain⟨v,e1,e2,e3⟩:=hI.ex;have m9:W2.cell? ⟨w.heap.size+1,0,none⟩=some v:=au e1 0 rfl
   have hlen:(((eu S S.N).take i).filter (fun i=>S.cnt i==0)).length<1073741824:=by
    have h1:(((eu S S.N).take i).filter (fun i=>S.cnt i==0)).length≤S.N:=by
     refine Nat.le_trans (List.length_filter_le _ _) (Nat.le_trans (List.length_take_le' _ _) ?_);unfold eu;exact Nat.le_trans (List.length_filter_le _ _) (by simp)
    have:=HS.Nr;omega
   have hnext:((eu S S.N).take (i+1)).filter (fun i=>S.cnt i==0)=if S.cnt z'=0 then((eu S S.N).take i).filter (fun i=>S.cnt i==0)++[z']else((eu S S.N).take i).filter (fun i=>S.cnt i==0):=by
    rw[List.take_add_one,hx,List.filter_append]
    by_cases e:S.cnt z'=0
    ·simp[e]
    ·simp[e]
   generalize hR:((eu S S.N).take i).filter (fun i=>S.cnt i==0)=R at *
   rw[hnext];have HI:=Lib.hid hI;have qQ:=Lib.hid (And.intro hx (And.intro e1 (And.intro e2 e3)));clear hI hon kp rw2 f1 f2 f3 e1 e2 e3 Uy hx hx' hnext hcn hg0 hd hpl hga hgt
   by_cases hz:S.cnt z'=0
   ·rw[hz]at m3;rw[if_pos hz];have HZ:=Lib.hid hz;clear hz;have Dh:∀o,Sl (W2.alloc o).drew 171 5 v R.length (fun j=>bC S (R.getD j 0)):=fun o=>qQ.2.2.1.kept (fun g m c e hg=>(((Below.refl W2.heap.size W2).alloc (Nat.le_refl _) o).drew).block g hg);have hstep:=fun o g4 c4 W4 cs hq=>HI.step (v:=v) (g:=g4) (cap:=c4) (Wa:=(W2.alloc o).drew) (W4:=W4) (cs:=cs) hsz qQ.2.1 (((Below.refl W2.heap.size W2).alloc (Nat.le_refl _) o).drew) hq;have hnw:∀o:Obj,(W2.alloc o).drew.heap[W2.heap.size]?=some o:=fun o=>heap_alloc_new _ _;have h1c:∀u∈(#[.int .i64 (z':Nat),.int .i64 (d.v:Nat),.int .i64 (d.lo:Nat),.int .i64 (d.hi:Nat),.int .i64 (S.refs z':Nat)]:Array Value).toList,u.oneCell'=true:=by simp[Value.oneCell']
    gi_wp2
    refine oC (pX l) 8 (by kernel_rfl) (by kernel_rfl) (by kernel_rfl) ?_;simp only[List.take_succ_cons,List.take_zero,List.drop_succ_cons,List.drop_zero]
    repeat still_step
    refine wpStill_nil ?_
    gi_wp2_with (gi_at_builtin;go_loud (apply gu _ rfl _ _ _ rfl Xo rfl (Dh _) rfl (hnw _) rfl h1c hlen);go_loud (intro g4 c4 W4 hq;obtain⟨s1,s2,s3⟩:=hstep _ _ _ _ _ hq);have q4:=au s3 0 rfl;have fr4:=jv s3;have XH:=Lib.hid (And.intro s1 s2);clear s1 s2 hq hstep)
    ·obtain⟨r1,r2⟩:=XH.out;refine⟨r2,r1.congr (fun j hj=>?_)⟩
     by_cases e:j=R.length
     ·subst e;simp[HN.out]
     ·rw[if_neg e];have hj':j<R.length:=by omega
      simp[List.getD,List.getElem?_append,hj']
    all_goals exact 0
   ·have hzz:(((S.cnt z':Nat):Int)==0)=false:=by simp[hz]
    rw[if_neg hz];have HZ:=Lib.hid hz;clear hz
    gi_wp2
    refine oC (pX l) 8 (by kernel_rfl) (by kernel_rfl) (by kernel_rfl) ?_;simp only[List.take_succ_cons,List.take_zero,List.drop_succ_cons,List.drop_zero]
    repeat still_step
    refine wpStill_nil ?_;have hb2:=(Below.refl W2.heap.size W2).drew;have hfin:Kx (SC (w.heap.size+3) (w.heap.size+1) 206 171) W2 W2.drew∧gW 206 171 5 (w.heap.size+3) (w.heap.size+1) W0 W2.drew R.length (fun j=>bC S (R.getD j 0)):=⟨Kx.below hb2,HI.below hsz hb2⟩;have SE:=Lib.hid hfin;clear hfin
    gi_wp2
    all_goals exact SE
  case done=>
   rintro D W2 hD hI hK;rw[List.take_length,JU]at hI;obtain⟨v,e1,e2,e3⟩:=hI.ex;have hon:=hI.only;have kp:∀q,q<W0.heap.size→q≠w.heap.size+1→W2.heap[q]?=W0.heap[q]?:=fun q h1 h2=>hon.block q h1 h2;have m1:W2.cell? ⟨w.heap.size,0,none⟩=some (.pointer (some ⟨sb,0,none⟩)):=au ((kp _ (by omega) (by omega)).trans HO.1) 0 rfl;have m9:W2.cell? ⟨w.heap.size+1,0,none⟩=some v:=au e1 0 rfl;obtain⟨N,hN⟩:∃N,N=S.bS.length:=⟨_,rfl⟩
   obtain⟨pp,cc,hv,hrw⟩:∃(pp:Option Addr)(cc:Nat),v=.slice pp N cc∧(0<N→∃g,pp=some ⟨g,0,none⟩∧Rw W2 171 5 N cc g (fun j=>bC S (S.bS.getD j 0))∧w.heap.size+3≤g):=by
    rw[hN]
    rcases e2 with⟨f1,f2⟩|⟨g,c,f1,f2⟩
    ·exact⟨none,0,by rw[f1,f2],fun h=>by omega⟩
    ·exact⟨_,c,f1,fun _=>⟨g,rfl,f2,e3 _ _ _ f1⟩⟩
   subst hv;obtain⟨K1,hK1⟩:∃K1:Nat→Nat,K1=fun q=>if q<w.heap.size then K q else 0:=⟨_,rfl⟩;have hb2:Below w.heap.size w W2:=HB1.trans ⟨hon.os,hon.tape,hon.output,hon.size,fun q hq=>hon.block q (by omega) (by omega)⟩;have t0:∀R:Nat→Prop,aj R K w K1 W2:=fun R=>⟨Only.of_below hb2,fun q hq=>by rw[hK1];exact if_pos hq⟩;have k0:∀q,w.heap.size≤q→K1 q=0:=fun q hq=>by rw[hK1];exact if_neg (by omega)
   have hst:StJ K1 W2 sb L n room (Db S []) (yL S []) S.cn S.dead ah ord:=by
    rw[QC,Im];exact HH.toStJ.aG (t0 (fun _=>False)) (fun r h=>h.elim)
   have hfit:S.free.length+N+1≤S.N:=by
    have:=HS.collect.zK;have h2:S.collect.free.length=S.free.length+N:=by rw[hN];exact List.length_append
    have h3:S.collect.N=S.N:=rfl;omega
   have hNb:S.N≤1048577:=by have:=HS.Nr;omega
   have HN:=Lib.hid hN;have HT0:=Lib.hid (And.intro t0 k0);have HST:=Lib.hid hst;have HRW:=Lib.hid hrw;have Ue:=Lib.hid (And.intro e1 hK);have Ww:=Lib.hid hI.only.size;have HKP:=Lib.hid (And.intro ((kp w.heap.size (by omega) (by omega)).trans HO.1) hb2);clear hN t0 k0 hst hrw e1 e2 e3 hI hon kp hK1 hpl hga hgt hb2 hK
   gi_wp2
   gi_loopw [6,37,38,39,40,41,42,43,44,45,46,47,48,49,50,51,52,53,54,55,56,57,58,59,60,61] (fun v6 v37 v38 v39 v40 v41 v42 v43 v44 v45 v46 v47 v48 v49 v50 v51 v52 v53 v54 v55 v56 v57 v58 v59 v60 v61 wr=>∃j:Nat,j≤N∧v37=.int .i64 (j:Nat)∧∃L' K',StJ K' wr sb L' n room (Db S (S.bS.take j)) (yL S (S.bS.take j)) S.cn S.dead ah ord∧L'.ce=L.ce∧aj sR K1 W2 K' wr)
    (fun v6 v37 v38 v39 v40 v41 v42 v43 v44 v45 v46 v47 v48 v49 v50 v51 v52 v53 v54 v55 v56 v57 v58 v59 v60 v61 wr=>Il N v37)
   case atStart=>exact⟨0,Nat.zero_le _,rfl,L,K1,HST,rfl,aj.refl⟩
   case round=>
    obtain⟨j,hj,rfl,L',K',hj0,hce,ht⟩:=hrel;have HJ:=Lib.hid hj0;have Qv:=Lib.hid hce;have HT:=Lib.hid ht;clear hj0 hce ht;have r0:∀q,w.heap.size≤q→q<W2.heap.size→wr.heap[q]?=W2.heap[q]?:=fun q h1 h2=>HT.block h2 (by rw[HT0.2 q h1];unfold sR;omega)
    by_cases hlt:j<N
    ·obtain⟨g,hpp,hrw,hg3⟩:=HRW (by omega);subst hpp;have hgl:=hrw.lt;have hr2:=hrw.kept (r0 g (by omega) hgl)
     have hzj:S.bS[j]?=some (S.bS.getD j 0):=by
      have:j<S.bS.length:=by rw[←HN];exact hlt
      simp[List.getD,this]
     obtain⟨z,hz⟩:∃z,z=S.bS.getD j 0:=⟨_,rfl⟩;rw[←hz]at hzj;have Wx:=Bd.iP.1 (List.mem_of_getElem? hzj);obtain⟨d,hd⟩:=Option.ne_none_iff_exists'.1 Wx.2.1;have XI:bC S z=[.int .i64 (z:Nat),.int .i64 (d.v:Nat),.int .i64 (d.lo:Nat),.int .i64 (d.hi:Nat),.int .i64 (S.refs z:Nat)]:=by unfold bC;rw[hd]
     have z0:=hr2.cell (i:=j) (j:=0) hlt (by omega);have z1:=hr2.cell (i:=j) (j:=1) hlt (by omega);have z2:=hr2.cell (i:=j) (j:=2) hlt (by omega);have z3:=hr2.cell (i:=j) (j:=3) hlt (by omega);have z4:=hr2.cell (i:=j) (j:=4) hlt (by omega);rw[←hz,XI]at z0 z1 z2 z3 z4;simp only[List.getElem?_cons_zero,List.getElem?_cons_succ,Nat.add_zero]at z0 z1 z2 z3 z4;obtain⟨ev,Lu,Lv⟩:=HE z d hd
     have hzn:z∉S.bS.take j:=by
      have hnd:S.bS.Nodup:=(List.nodup_range).filter _;rw[←List.take_append_drop j S.bS,List.nodup_append]at hnd;intro hm;refine hnd.2.2 z hm z (List.mem_of_getElem? (i:=0) ?_) rfl;rw[List.getElem?_drop];exact hzj
     have hsucc:S.bS.take (j+1)=S.bS.take j++[z]:=by rw[List.take_add_one,hzj];rfl
     have hf:yL S (S.bS.take j) d.v d.lo d.hi=some z:=by
      unfold yL;rw[(HS.tb d.v d.lo d.hi z ev).2 ⟨hd,rfl⟩];exact if_neg hzn
     have XJ:(Db S (S.bS.take j)).nd z=some d:=by
      show(if z∈S.bS.take j then none else S.nd z)=some d;rw[if_neg hzn,hd]
     have SF:(S.bS.take j).length=j:=by rw[List.length_take,←HN];omega
     have hfl:(Db S (S.bS.take j)).free.length=S.free.length+j:=by
      show(S.free++S.bS.take j).length=_;rw[List.length_append,SF]
     have xX:(rel (Db S (S.bS.take j)) z).many+1=(Db S (S.bS.take j)).many:=by
      unfold Bd.St.many
      have h1:(rel (Db S (S.bS.take j)) z).free.length=S.free.length+j+1:=by
       show((Db S (S.bS.take j)).free++[z]).length=_;rw[List.length_append,hfl];rfl
      have h2:(rel (Db S (S.bS.take j)) z).N=S.N:=rfl;have h3:(Db S (S.bS.take j)).N=S.N:=rfl;rw[h1,h2,h3,hfl];omega
     obtain⟨bx,BX⟩:∃o:Obj,o=.cells #[.int .i64 (z:Nat),.int .i64 (d.v:Nat),.int .i64 (d.lo:Nat),.int .i64 (d.hi:Nat),.int .i64 (S.refs z:Nat)] 171:=⟨_,rfl⟩;obtain⟨KA,Uz⟩:∃KA,KA=bJ K' wr.heap.size 0:=⟨_,rfl⟩
     have tA:∀R:Nat→Prop,aj R K' wr KA (wr.alloc bx).drew:=fun R=>by
      rw[Uz];exact((aj.refl.alloc bx).drewN 1).new (Nat.le_refl _)
     have kA:KA wr.heap.size=0:=by rw[Uz];exact aW _ _ _
     have NI:=HJ.aG (tA (fun _=>False)) (fun r h=>h.elim);have x0:(wr.alloc bx).drew.heap[wr.heap.size]?=some bx:=heap_alloc_new _ _
     have x1:(wr.alloc bx).drew.heap[w.heap.size]?=some (.cells #[.pointer (some ⟨sb,0,none⟩)] 113 (0,0)):=by
      have h1:=(r0 _ (Nat.le_refl _) (by have:=Ww.out;omega)).trans HKP.1;exact(Below.heap_alloc wr bx _ (aV h1)).trans h1
     have p1:(wr.alloc bx).drew.cell? ⟨w.heap.size,0,none⟩=some (.pointer (some ⟨sb,0,none⟩)):=au x1 0 rfl;have p2:(wr.alloc bx).drew.cell? ⟨sb,2,none⟩=some (.slice (some ⟨L'.kE,0,none⟩) n L'.qM):=au NI.row 2 rfl;have p3:=NI.tabs.cell (i:=d.v) (j:=0) ev (by omega);simp only[Nat.mul_one,Nat.add_zero,List.getElem?_cons_zero]at p3;have cC:=CF (NI.tab d.v ev) d.lo d.hi z Lu Lv hf;have kL:(d.v:Int)<(n:Int):=by omega
     have hji:(j:Int)<(N:Int):=by omega
     have UA:=Lib.hid (And.intro NI (And.intro tA kA));have HX:=Lib.hid (And.intro x0 x1);have HPN:=Lib.hid (And.intro XJ (And.intro hfl xX));have HD2:=Lib.hid (And.intro hd (And.intro hsucc ev));have HWS:w.heap.size<wr.heap.size:=by have:=HT.size;have:=Ww.out;omega
     clear NI tA kA x0 x1 XJ hfl xX hd hsucc r0 hr2 hrw hgl Wx hzn hf hzj Uz hz XI SF;subst BX
     gi_wp2
     refine oC sM 12 (by kernel_rfl) (by kernel_rfl) (by kernel_rfl) ?_;simp only[List.take_succ_cons,List.take_zero,List.drop_succ_cons,List.drop_zero]
     repeat still_step
     refine wpStill_nil ?_
     gi_wp2_with (refine⟨trivial,?_⟩;gi_at_call 169;refine(callsIn_wide.2 cC).mono ?_;rintro r w7 ⟨rfl,h7,t7⟩;have H7:=Lib.hid h7;have T7:=Lib.hid t7;clear h7 t7 cC)
     obtain⟨hd,hsucc,ev⟩:=HD2.out
     have XK:=(UA.1.Qs ev H7 T7).Io (NG:=yL S (S.bS.take j++[z])) (fun u hu=>by
      have:=Dc (S:=S) (ds:=S.bS.take j) (n:=n) (i:=z) (d:=d) (fun v lo hi i hv=>by rw[HS.tb v lo hi i hv];simp) hd ev u hu
      rw[←this])
     have hJ8:=XK.drew;have nr:∀q,KA q=0→¬(KA q=100+2*d.v+1):=fun q h=>by omega
     have x2:w7.drew.heap[wr.heap.size]?=some _:=T7.obj HX.1 (nr _ UA.2.2)
     have kw:KA w.heap.size=0:=by
      rw[(UA.2.1 (fun _=>False)).ext _ HWS,HT.ext _ (by have:=Ww.out;omega)];exact HT0.2 _ (Nat.le_refl _)
     have x3:w7.drew.heap[w.heap.size]?=some _:=T7.obj HX.2 (nr _ kw);have p1':w7.drew.cell? ⟨w.heap.size,0,none⟩=some (.pointer (some ⟨sb,0,none⟩)):=au x3 0 rfl;have p4:w7.drew.cell? ⟨wr.heap.size,0,none⟩=some (.int .i64 (z:Nat)):=au x2 0 rfl;have p5:w7.drew.cell? ⟨sb,1,none⟩=some (.pointer (some ⟨L'.pb,0,none⟩)):=au hJ8.row 1 rfl;have cG:=Jq hJ8.pool z d HPN.1 HPN.2.2 (by rw[HPN.2.1];omega);have HJ8:=Lib.hid hJ8;have HS2:=Lib.hid hsucc;clear XK hJ8 hd hsucc ev x2 x3 nr kw;refine oC sM 6 (by kernel_rfl) (by kernel_rfl) (by kernel_rfl) ?_;simp only[List.take_succ_cons,List.take_zero,List.drop_succ_cons,List.drop_zero]
     repeat still_step
     refine wpStill_nil ?_
     gi_wp2_with (refine⟨trivial,?_⟩;gi_at_call 178;refine(callsIn_wide.2 cG).mono ?_;rintro r w9 ⟨rfl,K9,fv9,h9,t9⟩;have H9:=Lib.hid h9;have T9:=Lib.hid t9;clear h9 t9 cG)
     go_roundw
     case rel=>
      have hJ9:=HJ8.Qr H9 T9;rw[ND,←HS2]at hJ9;refine⟨j+1,by omega,by simp,_,K9,hJ9,Qv,?_⟩;have t1:=(HT.trans (UA.2.1 sR)).trans (T7.mono (R':=sR) (fun r hr=>by unfold sR;omega));exact(t1.drewN 1).trans (T9.mono (fun r hr=>by unfold sR;unfold pR at hr;omega))
     case measure=>simp[Il];omega
    ·obtain rfl:j=N:=by omega
     have n1:wr.cell? ⟨w.heap.size,0,none⟩=some (.pointer (some ⟨sb,0,none⟩)):=au ((r0 _ (Nat.le_refl _) (by have:=Ww.out;omega)).trans HKP.1) 0 rfl;have n2:wr.cell? ⟨w.heap.size+1,0,none⟩=some (.slice pp j cc):=au ((r0 _ (by omega) (by have:=Ww.out;omega)).trans Ue.1) 0 rfl;have hf4:∀o,wr.frozen? ⟨sb,o,none⟩=false:=jv HJ.row;have abT:=aV HJ.row;have n4:wr.cell? ⟨sb,4,none⟩=some (.int .i64 S.dead):=au HJ.row 4 rfl;have hne1:w.heap.size+1≠sb:=by omega
     have hne2:w.heap.size≠sb:=by omega
     have aaA:¬sb=w.heap.size+1:=by omega
     have n3:(wr.setCell ⟨sb,4,none⟩ (.int .i64 0)).cell? ⟨w.heap.size+1,0,none⟩=some (.slice pp j cc):=by
      have h0:(wr.setCell ⟨sb,4,none⟩ (.int .i64 0)).heap[w.heap.size+1]?=wr.heap[w.heap.size+1]?:=by simp[World.setCell,Array.getElem?_modify,aaA]
      exact au (h0.trans ((r0 _ (by omega) (by have:=Ww.out;omega)).trans Ue.1)) 0 rfl
     have rD:wr.heap[D]?=some (.deferred (some [])):=(r0 D (by omega) (aV Ue.2)).trans Ue.2;have HRD:=Lib.hid rD;clear r0 rD
     gi_wp2
     have hKd:(wr.setCell ⟨sb,4,none⟩ (.int .i64 0)).heap[D]?=some (.deferred (some [])):=by
      have:sb≠D:=by omega
      simp[World.setCell,Array.getElem?_modify,this,HRD.out]
     refine⟨by simp,.inl ⟨_,_,rfl,run_takeDeferred hKd,?_⟩⟩;refine⟨_,results_tmp rfl _ _ _,?_⟩;rw[HF];obtain⟨q1,q2⟩:=HJ.Qt 0;have htk:S.bS.take j=S.bS:=List.take_of_length_le (by rw[←HN];exact Nat.le_refl _);rw[htk]at q1;have q3:=StJ.XF HS q1 (fun i hi=>by rw[Qv];exact HH.Jr i hi);have hKD:K' D=0:=by rw[HT.ext D (aV Ue.2)];exact HT0.2 D (by omega)
     refine⟨⟨j,rfl⟩,K',?_,?_⟩
     ·rw[show S.gc=S.collect from by unfold Bd.St.gc;rw[if_neg (by rw[←HD.1];exact HD.2)]];obtain⟨L3,h3⟩:=q3;exact⟨L3,h3.aG (QE hKD _) (fun r hr=>by unfold sR;omega)⟩
     ·exact Uw (((HT0.1 sR).trans HT).trans (q2.mono (fun r hr=>by unfold sR;omega))) (by omega) _
end
end
end Go.Proofs.YtpijlhlpejlhhaaGreat
