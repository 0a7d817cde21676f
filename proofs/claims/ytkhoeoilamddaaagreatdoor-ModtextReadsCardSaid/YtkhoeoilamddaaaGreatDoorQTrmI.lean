/- Walks and plain words: TrmI TrmJ BldD TrmS FrmQ FrmA. -/
import Derived.StillTailTactics
import Derived.Test.YtkhoeoilamddaaaGreatDoorQPrsA
import Derived.Defers
import Derived.Tactics2
namespace Go.Proofs.YtkhoeoilamddaaaGreatDoor
open Go.RowKit
set_option linter.unusedVariables false
set_option maxRecDepth 100000
set_option maxHeartbeats 4000000
theorem nO:(Tryz.prog.info? 9).map (fun i=>(i.zero,i.size,i.bytes))=some (some (.string ⟨#[]⟩),1,16):=by kernel_rfl
theorem qo{P:Program}{w:World}{ops:Array Oper}{rest:List Oper}{o:Oper}{a:Act}{Q:Exit→Act→World→Prop}(D:o.guard=none)(d s:Operand)(I J:TypeId)
 (ho:o.op=.call {callee:=.builtin .copy,args:=#[d,s],argTypes:=#[I,J]}) (elem:TypeId) (hu:P.underlying I=some (.slice elem)) (hsz:(P.info? elem).map (·.size)=some 1)
 (dp sp:Option Addr) (dLen dCap sLen sCap:Nat) (hd:a.eval d=.slice dp dLen dCap) (hs:a.eval s=.slice sp sLen sCap)
 (g off:Nat) (cur:List Value) (t:TypeId) (hg:w.heap[g]?=some (.cells cur.toArray t (0,0))) (cs:List Value) (hn:cs.length=Nat.min sLen dLen)
 (hpos:0<cs.length→dp=some ⟨g,off,none⟩∧∃ad,sp=some ad∧∀j v,cs[j]?=some v→w.cell? (ad.add j)=some v)
 (hfit:off+cs.length≤cur.length) (h1:∀v∈cs,v.oneCell'=true)
 (h:∀w',Hid (w'.heap[g]?=some (.cells (splice cur off cs).toArray t (0,0)))→Only (fun q=>q=g) w w'→wpList P ops Q rest (a.put o.dst (goInt cs.length)) w') :
 wpList P ops Q (o::rest) a w:=by
 by_cases h0:cs.length=0
 ·obtain rfl:cs=[]:=List.eq_nil_of_length_eq_zero h0;refine wpList_copy_nothing D d s I J ho elem hu hsz dp sp dLen dCap sLen sCap hd hs (by simpa using hn.symm) ?_;exact h w (show _=_ by simpa[splice]using hg) Only.refl
 ·obtain⟨rfl,ad,rfl,G⟩:=hpos (by omega);refine wpList_copy_own D d s I J ho elem hu hsz g off dLen dCap ad sLen sCap hd hs cur.toArray t hg cs hn G (by simpa using hfit) h1 ?_;exact h _ (show _=_ by simpa[splice]using setRow_heap w g _ _ t _ hg) ⟨rfl,rfl,rfl,by simp[World.setRow],fun k O hne=>setRow_other w g k _ hne⟩
theorem mI{id:Nat}{Q:Exit→Act→World→Prop}{a:Act}{w:World}{l:List Oper}(n:Nat)(hm:Tryz.prog.follows .mixedOrders=true)(D:Region.lexTailB .any l.toArray n=true)
 (h:wpStill Tryz.prog l.toArray w.drew (fun a'=>wpList Tryz.prog l.toArray Q (l.drop n) a' w.drew) (l.take n) a):(Code.region id l.toArray true).wp Tryz.prog Q a w:=wp_region_still_tail n hm D h
def Strs(xs:List Value):Prop:=∀v∈xs,∃s:ByteArray,v=.string s
def afK(B:Nat)(v:Value)(n:Nat)(w:World)(e:Ending)(w':World):Prop:=∃v' xs' m,e=.returned v'∧0<m∧m≤n+1∧Strs xs'∧w'.ownsRow B 9 1 v' m xs'∧w.grownBy w' v.ownBlock∧∀q,v'.ownBlock=some q→some q=v.ownBlock∨w.heap.size≤q
theorem Cm{cur:List Value}{k n:Nat}(I:k≤n)(hn:n+1≤cur.length)(h:Strs (cur.take (n+1))):Strs ((splice cur (k+1) ((cur.drop k).take (n-k))).take (n+1))∧(splice cur (k+1) ((cur.drop k).take (n-k))).length=cur.length:=by
 have D:((cur.drop k).take (n-k)).length=n-k:=by simp;omega
 refine⟨fun v hv=>?_,length_splice _ _ _ (by rw[D];omega)⟩
 apply h
 unfold splice at hv;rw[D,List.take_append]at hv;have G:(cur.take (k+1)).length=k+1:=by simp;omega
 rw[G]at hv
 rcases List.mem_append.1 hv with hv|hv
 ·have h1:=List.mem_of_mem_take hv;exact(List.take_subset_take_left cur (by omega)) h1
 ·rw[List.take_append,D]at hv
  rcases List.mem_append.1 hv with hv|hv
  ·have h1:=List.mem_of_mem_take hv;have h2:(cur.drop k).take (n-k)=(cur.take n).drop k:=by rw[List.drop_take]
   rw[h2]at h1;exact(List.take_subset_take_left cur (by omega)) (List.mem_of_mem_drop h1)
  ·rw[show n+1-(k+1)-(n-k)=0 from by omega,List.take_zero]at hv;cases hv
theorem afL{w:World}{B g n cap k:Nat}{T:TypeId}{cur:List Value}(G:w.heap[g]?=some (.cells cur.toArray T (0,0)))(D:B≤g)(hn:n≤cap)(hc:cap≤maxLen)(J:cur.length=cap)(I:k<n)(hs:Strs (cur.take n))(s:ByteArray) :
 ∃xs,Strs xs∧(w.setCell ⟨g,k,none⟩ (.string s)).ownsRow B T 1 (.slice (some ⟨g,0,none⟩) n cap) n xs:=by
 refine⟨(cur.set k (.string s)).take n,fun v hv=>?_,by simp;omega,.inr ⟨g,cap,(cur.set k (.string s)).toArray,rfl,D,?_,hn,hc,by simp;omega,by simp⟩⟩
 ·rw[List.take_set]at hv
  rcases List.mem_or_eq_of_mem_set hv with hv|hv
  ·exact hs v hv
  ·exact⟨s,hv⟩
 ·simp[World.setCell,Array.getElem?_modify,G]
theorem aaE{B n k g' D:Nat}{a:Option Addr}{cap:Nat}{xs:List Value}{w w1 wd w2:World}{L:List Value}{o:Obj}{s:ByteArray}(aa:w.ownsRow B 9 1 (.slice a n cap) n xs)
 (hgrow:(w.alloc o).grownBy w1 (Value.slice a n cap).ownBlock) (hat:(Value.slice a n cap).ownBlock=some g'∨g'=w.heap.size+1) (hwd:wd=w1.drew) (hk:k≤n) (hBg:B≤g') (hnc:n+1≤D) (hcm:D≤maxLen) (hll:L.length=D) (hls:Strs (L.take (n+1)))
 (ho2:Only (fun q=>q=g') wd w2) (HG2:w2.heap[g']?=some (.cells (splice L (k+1) ((L.drop k).take (n-k))).toArray 9 (0,0))) :
 afK B (.slice a n cap) n w (.returned (.slice (some ⟨g',0,none⟩) (n+1) D)) (w2.setCell ⟨g',k,none⟩ (.string s)):=by
 obtain⟨h1,h2⟩:=Cm (cur:=L) (k:=k) (n:=n) hk (by omega) hls;obtain⟨ys,O,Y⟩:=afL (k:=k) HG2 hBg hnc hcm (by rw[h2,hll]) (by omega) h1 s
 refine⟨_,ys,n+1,rfl,by omega,lr _,O,Y,?_,fun q hq=>by
  have I:g'=q:=by simpa[Value.ownBlock]using hq
  subst I
  rcases hat with h|h
  ·exact .inl h.symm
  ·right;omega⟩
 have J:=hgrow.size;simp at J;have ab:wd.heap.size=w1.heap.size:=by rw[hwd];rfl
 refine⟨?_,?_,?_,?_,fun q hq hne=>?_⟩
 ·show(w2.setCell _ _).os=_;have:=ho2.os;rw[hwd]at this;exact this.trans (hgrow.os)
 ·have:=ho2.tape;rw[hwd]at this;exact this.trans (hgrow.tape)
 ·have:=ho2.output;rw[hwd]at this;exact this.trans (hgrow.output)
 ·have:=ho2.size;simp;omega
 ·have G:q≠g':=by
   rcases hat with h|h
   ·intro e;subst e;exact hne h.symm
   ·omega
  rw[iw w2 ⟨g',k,none⟩ q _ G,ho2.block q (by omega) G,hwd];show w1.heap[q]?=_;rw[hgrow.block q (by simp;omega) hne];exact heap_alloc_old w o hq
theorem Tp(B n:Nat)(v:Value)(xs:List Value)(s:ByteArray)(w:World)(O:w.ownsRow B 9 1 v n xs)(hs:Strs xs)(hn:n≤10000000)(hB:B≤w.heap.size) :
 Calls Tryz.prog 165 #[v,.string s] w (afK B v n w):=by
 obtain⟨i0,hi,ba,bb,bd⟩:=info_parts nO;have aa:=Hd O;have LK:=Hd hs;have Pf:=Hd O.1
 obtain⟨a,cap,hv,bg⟩:∃a cap,v=.slice a n cap∧n≤cap:=by
  rcases O.2 with⟨hv,h0⟩|⟨g,cap,cur,hv,_,_,h1,_⟩
  ·exact⟨none,0,by rw[h0];exact hv,by omega⟩
  ·exact⟨_,cap,hv,h1⟩
 have iF:Hid (∀k,k<n→∃g x,a=some ⟨g,0,none⟩∧w.cell? ⟨g,k,none⟩=some (.string x)):=by
  intro k hk
  rcases O.2 with⟨_,h0⟩|⟨g,D,cur,a8,_⟩
  ·omega
  ·rw[hv]at a8
   injection a8 with ha
   subst ha;have hlen:=O.1;have hx:xs[k]?=some (xs[k]'(by omega)):=gG (by omega);obtain⟨x,bj⟩:=hs _ (mG hx);have:=O.cells (g:=g) (by rw[hv];rfl) k _ hx;rw[show(⟨g,0,none⟩:Addr).add k=⟨g,k,none⟩from by unfold Addr.add;split<;>simp_all,bj]at this;exact⟨g,x,rfl,this⟩
 subst hv;obtain⟨F,HF⟩:=ak (afK B (.slice a n cap) n w);rw[←HF];clear O hs;go_in;go_wp2_with fail
 go_loop [5] (fun si=>∃k:Nat,k≤n∧si=.int .i64 k) (fun si=>(intOf si).toNat)
 case atStart=>exact⟨n,lr _,rfl⟩
 case round=>
  obtain⟨k,hk,rfl⟩:=hrel;have HN:=Hd hn
  by_cases a7:k=0
  ·have bk:¬(0:Int)<(k:Int):=by omega
   clear a7
   go_wp2_with (at_builtin;refine wpList_append_lies _ (by rfl) _ _ _ (by rfl) B 9 i0 (.string ⟨#[]⟩) 1 16 Tryz.underlying120 hi ba bb bd rfl (by decide) _ n xs (by rfl) (aa.alloc _) ⟨w.heap.size,0,none⟩ 1 1 [.string ⟨#[]⟩] (by rfl) rfl ?c1 ?c2 (by decide) ?c3 ?c4 ?c5 (w.heap.size+1) (by simp) ?_)
   case c2=>rfl
   case c3=>have:=HN.out;unfold maxLen;omega
   case c4=>have:=HN.out;omega
   case c5=>omega
   intro g' D w1 Y J ar bh
   obtain⟨L,aE,aw,aQ,av,af,ae⟩:∃L:List Value,B≤g'∧w1.heap[g']?=some (.cells L.toArray 9 (0,0))∧n+1≤D∧D≤maxLen∧L.length=D∧Strs (L.take (n+1)):=by
    rcases Y.2 with⟨h,_⟩|⟨g2,az,cur,aS,h1,h2,h3,h4,h5,h6⟩
    ·cases h
    ·injection aS with ha1 _ ha2
     injection ha1 with ha1
     injection ha1 with ha1 _ _
     subst ha1 ha2;refine⟨cur.toList,h1,by rw[h2],h3,h4,by simpa using h5,?_⟩;rw[Nat.mul_one]at h6;rw[h6];intro y hy
     rcases List.mem_append.1 hy with hy|hy
     ·exact LK y hy
     ·simp at hy;exact⟨_,hy⟩
   obtain⟨wd,hwd⟩:=aj w1.drew;have Dy:=Hd hwd;have Tq:Hid (wd.heap[g']?=some (.cells L.toArray 9 (0,0))):=by show _=_;rw[hwd];exact aw
   have Cn:=Hd (fun w2 I G=>aaE (w2:=w2) aa J ar hwd hk aE aQ av af ae I G (s:=s));have ag:=Hd (Cm (cur:=L) (k:=k) (n:=n) hk (by omega) ae);have ao:((L.drop k).take (n-k)).length=n-k:=by simp;omega
   have ai:Hid (∀v∈(L.drop k).take (n-k),v.oneCell'=true):=fun v hv=>by
    have h2:(L.drop k).take (n-k)=(L.take n).drop k:=by rw[List.drop_take]
    rw[h2]at hv;obtain⟨z,rfl⟩:=ae v ((List.take_subset_take_left L (by omega)) (List.mem_of_mem_drop hv))
    rfl
   have ay:Hid (∀j v,((L.drop k).take (n-k))[j]?=some v→wd.cell? ((⟨g',k,none⟩:Addr).add j)=some v):=fun j v hj=>by
    rw[show(⟨g',k,none⟩:Addr).add j=⟨g',k+j,none⟩from by unfold Addr.add;split<;>simp_all,cR wd g' (k+j) _ _ (0,0) Tq];rw[List.getElem?_take]at hj
    split at hj
    ·rw[List.getElem?_drop]at hj
     simpa using hj
    ·cases hj
   have Tt:=Hd ao;have QJ:=Hd af;have ab:(Tryz.prog.info? 9).map (·.size)=some 1:=by kernel_rfl
   have d0:(0:Int)≤(k:Int)+1:=by omega
   have bi:IntKind.i64.wrap ((k:Int)+1)=(k:Int)+1:=by rw[IntWalk.i64_in _ (by omega)]
   have d1:(k:Int)+1≤(n:Int)+1:=by omega
   have d3:(0:Int)≤(k:Int):=by omega
   have d4:(k:Int)≤(n:Int)+1:=by omega
   have d5:(k:Int)<(n:Int)+1:=by omega
   have d6:(n:Int)+1≤(D:Int):=by omega
   have d7:¬D=k:=by omega
   unfold maxLen at av;clear ao hwd Y J aw af ae ar
   by_cases aF:D=k+1
   ·have ax:=Hd (show k=n by omega);go_wp2_with fail;refine mI 7 (by kernel_rfl) (by kernel_rfl) ?_;rw[←Dy];simp only[List.take_succ_cons,List.take_zero,List.drop_succ_cons,List.drop_zero]
    repeat still_step
    refine wpStill_nil ?_;refine qo rfl (.tmp 39) (.tmp 42) 120 120 rfl 9 Tryz.underlying120 ab _ _ _ _ _ _ (by rfl) (by rfl) g' (k+1) L 9 Tq ((L.drop k).take (n-k)) (by rw[Tt];exact(Nat.min_eq_right (by omega)).symm) (fun h=>absurd h (by rw[Tt];have:=ax.out;omega)) (by rw[Tt];have:=QJ.out;omega) ai ?_;intro w2 G I;have Ah:=Hd I
    have aJ:w2.cell? ⟨g',k,none⟩=some ((splice L (k+1) ((L.drop k).take (n-k)))[k]'(by rw[ag.2];have:=QJ.out;omega)):=by
     rw[cR w2 g' k _ _ (0,0) G];simp
    have aP:w2.frozen? ⟨g',k,none⟩=false:=Lib.frozen_of_heap G k;clear I;go_wp2_with fail;rw[HF];have h9:=Cn w2 Ah G;rw[aF]at h9;exact h9
   ·go_wp2_with fail;refine mI 7 (by kernel_rfl) (by kernel_rfl) ?_;rw[←Dy];simp only[List.take_succ_cons,List.take_zero,List.drop_succ_cons,List.drop_zero]
    repeat still_step
    refine wpStill_nil ?_;refine qo rfl (.tmp 39) (.tmp 42) 120 120 rfl 9 Tryz.underlying120 ab _ _ _ _ _ _ (by rfl) (by rfl) g' (k+1) L 9 Tq ((L.drop k).take (n-k)) (by rw[Tt];exact(Nat.min_eq_right (by omega)).symm) (fun _=>⟨rfl,_,rfl,ay⟩) (by rw[Tt];have:=QJ.out;omega) ai ?_;intro w2 G I;have Ah:=Hd I
    have aJ:w2.cell? ⟨g',k,none⟩=some ((splice L (k+1) ((L.drop k).take (n-k)))[k]'(by rw[ag.2];have:=QJ.out;omega)):=by
     rw[cR w2 g' k _ _ (0,0) G];simp
    have aP:w2.frozen? ⟨g',k,none⟩=false:=Lib.frozen_of_heap G k;clear I;go_wp2_with fail;rw[HF];exact Cn w2 Ah G
  ·obtain⟨k',a6⟩:∃k',k=k'+1:=⟨k-1,by omega⟩;have e1:(k:Int)-1=(k':Int):=by omega
   obtain⟨g,x,rfl,hx⟩:=iF k' (by omega);have b0:(0:Int)<(k:Int):=by omega
   have b1:(0:Int)≤(k':Int):=by omega
   have b2:(k':Int)<(n:Int):=by omega
   have bf:=Hd a6;clear a6 a7
   go_wp2_with (at_builtin;refine wpList_append_lies _ (by rfl) _ _ _ (by rfl) B 9 i0 (.string ⟨#[]⟩) 1 16 Tryz.underlying120 hi ba bb bd rfl (by decide) _ n xs (by rfl) (aa.alloc _) ⟨w.heap.size,0,none⟩ 1 1 [.string ⟨#[]⟩] (by rfl) rfl ?e1 ?e2 (by decide) ?e3 ?e4 ?e5 (w.heap.size+1) (by simp) ?_)
   ·go_round
    case rel=>exact⟨k',by have:=bf.out;omega,rfl⟩
    case measure=>simp[intOf];omega
   ·rw[HF];exact⟨_,xs,n,rfl,by omega,by omega,LK,aa,World.grownBy.refl _ _,fun q hq=>.inl hq.symm⟩
   case e2=>rfl
   case e3=>have:=HN.out;unfold maxLen;omega
   case e4=>have:=HN.out;omega
   case e5=>omega
   intro g' D w1 Y J ar bh
   obtain⟨L,aE,aw,aQ,av,af,ae⟩:∃L:List Value,B≤g'∧w1.heap[g']?=some (.cells L.toArray 9 (0,0))∧n+1≤D∧D≤maxLen∧L.length=D∧Strs (L.take (n+1)):=by
    rcases Y.2 with⟨h,_⟩|⟨g2,az,cur,aS,h1,h2,h3,h4,h5,h6⟩
    ·cases h
    ·injection aS with ha1 _ ha2
     injection ha1 with ha1
     injection ha1 with ha1 _ _
     subst ha1 ha2;refine⟨cur.toList,h1,by rw[h2],h3,h4,by simpa using h5,?_⟩;rw[Nat.mul_one]at h6;rw[h6];intro y hy
     rcases List.mem_append.1 hy with hy|hy
     ·exact LK y hy
     ·simp at hy;exact⟨_,hy⟩
   obtain⟨wd,hwd⟩:=aj w1.drew;have Dy:=Hd hwd;have Tq:Hid (wd.heap[g']?=some (.cells L.toArray 9 (0,0))):=by show _=_;rw[hwd];exact aw
   have Cn:=Hd (fun w2 I G=>aaE (w2:=w2) aa J ar hwd hk aE aQ av af ae I G (s:=s));have ag:=Hd (Cm (cur:=L) (k:=k) (n:=n) hk (by omega) ae);have ao:((L.drop k).take (n-k)).length=n-k:=by simp;omega
   have ai:Hid (∀v∈(L.drop k).take (n-k),v.oneCell'=true):=fun v hv=>by
    have h2:(L.drop k).take (n-k)=(L.take n).drop k:=by rw[List.drop_take]
    rw[h2]at hv;obtain⟨z,rfl⟩:=ae v ((List.take_subset_take_left L (by omega)) (List.mem_of_mem_drop hv))
    rfl
   have ay:Hid (∀j v,((L.drop k).take (n-k))[j]?=some v→wd.cell? ((⟨g',k,none⟩:Addr).add j)=some v):=fun j v hj=>by
    rw[show(⟨g',k,none⟩:Addr).add j=⟨g',k+j,none⟩from by unfold Addr.add;split<;>simp_all,cR wd g' (k+j) _ _ (0,0) Tq];rw[List.getElem?_take]at hj
    split at hj
    ·rw[List.getElem?_drop]at hj
     simpa using hj
    ·cases hj
   have Tt:=Hd ao;have QJ:=Hd af;have ab:(Tryz.prog.info? 9).map (·.size)=some 1:=by kernel_rfl
   have d0:(0:Int)≤(k:Int)+1:=by omega
   have bi:IntKind.i64.wrap ((k:Int)+1)=(k:Int)+1:=by rw[IntWalk.i64_in _ (by omega)]
   have d1:(k:Int)+1≤(n:Int)+1:=by omega
   have d3:(0:Int)≤(k:Int):=by omega
   have d4:(k:Int)≤(n:Int)+1:=by omega
   have d5:(k:Int)<(n:Int)+1:=by omega
   have d6:(n:Int)+1≤(D:Int):=by omega
   have d7:¬D=k:=by omega
   unfold maxLen at av;clear ao hwd Y J aw af ae ar
   by_cases aF:D=k+1
   ·have ax:=Hd (show k=n by omega);go_wp2_with fail;refine mI 7 (by kernel_rfl) (by kernel_rfl) ?_;rw[←Dy];simp only[List.take_succ_cons,List.take_zero,List.drop_succ_cons,List.drop_zero]
    repeat still_step
    refine wpStill_nil ?_;refine qo rfl (.tmp 39) (.tmp 42) 120 120 rfl 9 Tryz.underlying120 ab _ _ _ _ _ _ (by rfl) (by rfl) g' (k+1) L 9 Tq ((L.drop k).take (n-k)) (by rw[Tt];exact(Nat.min_eq_right (by omega)).symm) (fun h=>absurd h (by rw[Tt];have:=ax.out;omega)) (by rw[Tt];have:=QJ.out;omega) ai ?_;intro w2 G I;have Ah:=Hd I
    have aJ:w2.cell? ⟨g',k,none⟩=some ((splice L (k+1) ((L.drop k).take (n-k)))[k]'(by rw[ag.2];have:=QJ.out;omega)):=by
     rw[cR w2 g' k _ _ (0,0) G];simp
    have aP:w2.frozen? ⟨g',k,none⟩=false:=Lib.frozen_of_heap G k;clear I;go_wp2_with fail;rw[HF];have h9:=Cn w2 Ah G;rw[aF]at h9;exact h9
   ·go_wp2_with fail;refine mI 7 (by kernel_rfl) (by kernel_rfl) ?_;rw[←Dy];simp only[List.take_succ_cons,List.take_zero,List.drop_succ_cons,List.drop_zero]
    repeat still_step
    refine wpStill_nil ?_;refine qo rfl (.tmp 39) (.tmp 42) 120 120 rfl 9 Tryz.underlying120 ab _ _ _ _ _ _ (by rfl) (by rfl) g' (k+1) L 9 Tq ((L.drop k).take (n-k)) (by rw[Tt];exact(Nat.min_eq_right (by omega)).symm) (fun _=>⟨rfl,_,rfl,ay⟩) (by rw[Tt];have:=QJ.out;omega) ai ?_;intro w2 G I;have Ah:=Hd I
    have aJ:w2.cell? ⟨g',k,none⟩=some ((splice L (k+1) ((L.drop k).take (n-k)))[k]'(by rw[ag.2];have:=QJ.out;omega)):=by
     rw[cR w2 g' k _ _ (0,0) G];simp
    have aP:w2.frozen? ⟨g',k,none⟩=false:=Lib.frozen_of_heap G k;clear I;go_wp2_with fail;rw[HF];exact Cn w2 Ah G
set_option linter.unusedSectionVars false
structure Row1(b B:Nat)(w:World)(v:Value)(n:Nat)(xs:List Value):Prop where
 box:w.heap[b]?=some (.cells #[v] 120 (0,0))
 own:w.ownsRow B 9 1 v n xs
 strs:Strs xs
section
variable {b b2 B n n2:Nat} {w w':World} {v v2:Value} {xs xs2:List Value}
theorem Row1.cell(h:Row1 b B w v n xs):w.cell? ⟨b,0,none⟩=some v:=by rw[cR w b 0 _ _ (0,0) h.box];rfl
theorem Row1.frozen(h:Row1 b B w v n xs):w.frozen? ⟨b,0,none⟩=false:=by
 have:=h.box;simp[World.frozen?,this]
theorem Row1.lt(h:Row1 b B w v n xs):b<w.heap.size:=lH h.box
theorem zI(h:w.ownsRow B 9 1 v n xs){q:Nat}(hq:v.ownBlock=some q):∃cs,w.heap[q]?=some (.cells cs 9 (0,0)):=by
 rcases h.2 with⟨rfl,_⟩|⟨g,cap,cur,rfl,_,G,_⟩
 ·cases hq
 ·have D:g=q:=by simpa[Value.ownBlock]using hq
  subst D;exact⟨_,G⟩
theorem Row1.below(h:Row1 b B w v n xs)(hb:Below w.heap.size w w'):Row1 b B w' v n xs:=by
 refine⟨(hb.block b h.lt).trans h.box,h.own.kept (row:=none) ⟨hb.os,hb.tape,hb.output,hb.size,fun q hq _=>hb.block q hq⟩ ?_,h.strs⟩;cases hv:v.ownBlock<;>simp
theorem Row1.put(h:Row1 b B w v n xs){e:Ending}(hp:afK B v n w e w')(O:B≤b)(af:B≤w.heap.size):∃v' n' G,e=.returned v'∧Row1 b B (w'.setCell ⟨b,0,none⟩ v') v' n' G∧0<n'∧n'≤n+1∧(∀q,v'.ownBlock=some q→some q=v.ownBlock∨w.heap.size≤q)∧KT 64 B w (w'.setCell ⟨b,0,none⟩ v') ∧
 w'.cell? ⟨b,0,none⟩=some v∧w'.frozen? ⟨b,0,none⟩=false ∧
 ∀b2 v2 n2 xs2,b2≠b→Row1 b2 B w v2 n2 xs2→(v2.ownBlock=none∨v2.ownBlock≠v.ownBlock)→Row1 b2 B (w'.setCell ⟨b,0,none⟩ v') v2 n2 xs2:=by
 obtain⟨v',G,m,rfl,h1,h2,h3,h4,h5,h6⟩:=hp
 have I:some b≠v.ownBlock:=fun e=>by
  obtain⟨cs,hc⟩:=zI h.own e.symm;rw[h.box]at hc
  injection hc with hc
  injection hc with _ hc _
  exact absurd hc (by decide)
 have D:w'.heap[b]?=some (.cells #[v] 120 (0,0)):=(h5.block b h.lt I).trans h.box
 have J:v'.ownBlock≠some b:=fun e=>by
  obtain⟨cs,hc⟩:=zI h4 e;rw[D]at hc
  injection hc with hc
  injection hc with _ hc _
  exact absurd hc (by decide)
 refine⟨v',m,G,rfl,⟨?_,ownsRow_setCell_other h4 J _,h3⟩,h1,h2,h6,?_,by rw[cR w' b 0 _ _ (0,0) D];rfl,by simp[World.frozen?,D],?_⟩
 ·simp[World.setCell,Array.getElem?_modify,D]
 ·refine⟨Below.setCell (p:=⟨b,0,none⟩) ⟨h5.os,h5.tape,h5.output,h5.size,fun q hq=>h5.block q (by omega) (fun e=>?_)⟩ O _,fun q cs fz hq=>?_⟩
  ·have:=(h.own.lt q e.symm).1;omega
  ·have aa:q≠b:=fun e=>by
    subst e;rw[h.box]at hq
    injection hq with hq
    injection hq with _ hq _
    exact absurd hq (by decide)
   rw[iw w' ⟨b,0,none⟩ q _ aa];refine h5.block q (lH hq) fun e=>?_;obtain⟨ae,hc⟩:=zI h.own e.symm;rw[hq]at hc
   injection hc with hc
   injection hc with _ hc _
   exact absurd hc (by decide)
 ·intro b2 v2 n2 xs2 hne k hrow
  have Y:some b2≠v.ownBlock:=fun e=>by
   obtain⟨cs,hc⟩:=zI h.own e.symm;rw[k.box]at hc
   injection hc with hc
   injection hc with _ hc _
   exact absurd hc (by decide)
  have ab:v2.ownBlock≠some b:=fun e=>by
   obtain⟨cs,hc⟩:=zI k.own e;rw[h.box]at hc
   injection hc with hc
   injection hc with _ hc _
   exact absurd hc (by decide)
  refine⟨?_,ownsRow_setCell_other (k.own.kept h5 hrow) ab _,k.strs⟩;rw[iw w' ⟨b,0,none⟩ b2 _ hne];exact(h5.block b2 k.lt Y).trans k.box
end
structure Tv(b1 b2 B:Nat)(x:Nat×Bool)(w:World):Prop where
 B1:B≤b1
 B2:B≤b2
 rows:∃v1 n1 xs1 v2 n2 xs2,Row1 b1 B w v1 n1 xs1∧Row1 b2 B w v2 n2 xs2∧n1≤x.1∧n2≤x.1∧(n2=0↔x.2=false)∧(v2.ownBlock=none∨v2.ownBlock≠v1.ownBlock)
def vk(x:Nat×Bool)(t:Tm)(d:Nat):(Nat×Bool)×Bool:=((x.1+1,x.2||decide (t.op=4)),true)
mutual
theorem aaF:∀(t:Tm) (d:Nat) (x:Nat×Bool),(kN vk t d x).2=true∧(kN vk t d x).1.2=(x.2||hasNext t)
 |.mk o n s l,d,x=>by
  rw[Cc,hasNext];have h:=Tw l (d+1) (x.1+1,x.2||decide (o=4))
  show(if true=true then kG vk l (d+1) (x.1+1,x.2||decide (o=4))else _).2=true∧(if true=true then kG vk l (d+1) (x.1+1,x.2||decide (o=4))else _).1.2=_
  rw[iP rfl];refine⟨h.1,h.2.trans ?_⟩;simp[Bool.or_assoc]
theorem Tw:∀(l:List Tm) (d:Nat) (x:Nat×Bool),(kG vk l d x).2=true∧(kG vk l d x).1.2=(x.2||eU l)
 |[],d,x=>by rw[kG,eU];simp
 |t::r,d,x=>by
  have h1:=aaF t d x;rw[kG,eU]
  cases hw:kN vk t d x with
  |mk y b=>
   rw[hw]at h1;obtain⟨h2,h3⟩:=h1;simp only at h2 h3;subst h2;have D:=Tw r d y;refine⟨D.1,D.2.trans ?_⟩;rw[h3,Bool.or_assoc]
end
theorem WH(b1 b2 B:Nat)(hne:b1≠b2)(x:Nat×Bool)(t:Tm)(d:Nat)(A:Option Addr)(c:Nat)(w:World)(hI:Tv b1 b2 B x w)(hB:B≤w.heap.size)(hx:x.1≤9000000) :
 Calls Tryz.prog 164 #[t.val A c,.int .i64 d,.pointer (some ⟨b1,0,none⟩),.pointer (some ⟨b2,0,none⟩)] w fun e w'=>e=.returned (.bool true)∧Tv b1 b2 B (vk x t d).1 w'∧KT 64 B w w':=by
 obtain⟨B1,B2,v1,n1,I,v2,n2,xs2,r1,r2,l1,l2,hz,ab⟩:=hI;obtain⟨wb,Y⟩:=aj (w.alloc (.cells #[.int .i64 t.op,.int .i64 t.num,.string t.name,.slice A t.kids.length c] 64));have hb1:=dz Y;have ai:=r1.lt;have ao:=r2.lt;have k1:=r1.below hb1;have k2:=r2.below hb1;have G:B≤wb.heap.size:=by have:=hb1.size;omega
 have HK:Hid (KT 64 B w wb):=KT.of_below hb1 hB;have uy:=Hd (Tp B n1 v1 I t.name wb k1.own k1.strs (by omega) G);have O:=Hd (Tp B n2 v2 xs2 t.name wb k2.own k2.strs (by omega) G);have c1:=r1.cell;have c2:=r2.cell;have jy:=Hd Y;rw[jy]at uy O;have K1:=Hd k1;have K2:=Hd k2;have D:Hid ((vk x t d).1=(x.1+1,x.2||decide (t.op=4))):=rfl;obtain⟨st,ag⟩:=aj ((vk x t d).1);rw[←ag]at D⊢;have HZ:=Hd hz;have HD:=Hd ab;obtain⟨op,af⟩:=aj t.op;unfold Tm.val;rw[←af]at D uy O jy⊢;have vM:=Hd hne;have ae:=Hd G;clear Y hb1 G k1 k2 r1 r2 ag hz ab af hne
 by_cases h3:op=3
 ·subst h3;go_in;go_wp2_with fail;refine uy.mono ?_;rintro e w2 hp;rw[←jy]at hp;obtain⟨v',n',aa,rfl,q1,q2,q3,q4,q5,q6,q7,q8⟩:=K1.put hp B1 ae;obtain⟨g',J,rfl,-,-⟩:=q1.own.form q2;have Q1:=Hd q1;have Q5:=Hd (HK.trans q5);have Q8:=Hd (q8 b2 v2 n2 xs2 vM.symm K2 HD);have Q4:=Hd q4;clear q1 q5 q8 q4;go_wp2_with fail;go_ret;refine⟨rfl,⟨B1,B2,_,n',aa,v2,n2,xs2,Q1,Q8,by rw[D];show n'≤x.1+1;omega,by rw[D];show n2≤x.1+1;omega,by rw[D];simpa using HZ.out,?_⟩,Q5⟩
  cases hv2:v2.ownBlock with
  |none=>exact .inl rfl
  |some q=>
   right
   intro e
   rcases Q4.out q e.symm with h|h
   ·rcases HD.out with hd|hd
    ·rw[hv2]at hd;cases hd
    ·exact hd (hv2.trans h)
   ·have:=(K2.own.lt q hv2).2;omega
 ·have b3:(op==3)=false:=by simpa using h3
  clear h3
  by_cases h4:op=4
  ·subst h4;go_in;go_wp2_with fail;refine O.mono ?_;rintro e w2 hp;rw[←jy]at hp;obtain⟨v',n',aa,rfl,q1,q2,q3,q4,q5,q6,q7,q8⟩:=K2.put hp B2 ae;obtain⟨g',J,rfl,-,-⟩:=q1.own.form q2;have Q1:=Hd q1;have Q5:=Hd (HK.trans q5)
   have Q8:=Hd (q8 b1 v1 n1 I vM K1 (by
    rcases HD.out with h|h
    ·cases hv1:v1.ownBlock with
     |none=>exact .inl rfl
     |some q=>right;rw[h];simp
    ·exact .inr h.symm))
   have Q4:=Hd q4;clear q1 q5 q8 q4;go_wp2_with fail;go_ret;refine⟨rfl,⟨B1,B2,v1,n1,I,_,n',aa,Q8,Q1,by rw[D];show n1≤x.1+1;omega,by rw[D];show n'≤x.1+1;omega,by rw[D];simp;omega,?_⟩,Q5⟩
   cases hv':(Value.slice (some ⟨g',0,none⟩) n' J).ownBlock with
   |none=>exact .inl rfl
   |some q=>
    right
    intro e
    rcases Q4.out q hv' with h|h
    ·rcases HD.out with hd|hd
     ·rw[hd]at h;cases h
     ·exact hd (h.symm.trans e)
    ·have:=(K1.own.lt q e.symm).2;omega
  ·have b4:(op==4)=false:=by simpa using h4
   have H4:=Hd h4;clear h4;go_in;go_wp2_with fail;go_ret;rw[←jy];exact⟨rfl,⟨B1,B2,v1,n1,I,v2,n2,xs2,K1,K2,by rw[D];show n1≤x.1+1;omega,by rw[D];show n2≤x.1+1;omega,by rw[D];simpa[H4.out]using HZ.out,HD⟩,HK⟩
def ada(t:Tm)(w:World)(e:Ending)(w':World):Prop:=∃v1 A n2 c2,e=.returned (.tuple #[v1,.slice A n2 c2])∧(n2=0↔hasNext t=false)∧Below w.heap.size w w'
theorem abw(t:Tm)(A:Option Addr)(c:Nat)(w:World)(hV:zx w A c t)(hsz:t.size≤9000000) :
 Calls Tryz.prog 129 #[t.val A c] w (ada t w):=by
 obtain⟨wb,D⟩:=aj (((w.alloc (.cells #[.int .i64 t.op,.int .i64 t.num,.string t.name,.slice A t.kids.length c] 64)).alloc (.cells #[.slice none 0 0] 120)).alloc (.cells #[.slice none 0 0] 120));have hb1:Below w.heap.size w wb:=by rw[D];exact(((Br _ _).alloc (lr _) _).alloc (by simp) _).alloc (by simp;omega) _
 have J:∀W:World,W.ownsRow w.heap.size 9 1 (.slice none 0 0) 0 []:=fun W=>⟨rfl,.inl ⟨rfl,rfl⟩⟩
 have ab:Row1 (w.heap.size+1) w.heap.size wb (.slice none 0 0) 0 []:=by
  refine⟨?_,J _,fun v hv=>by cases hv⟩;rw[D,heap_alloc_old _ _ (by simp)];have h:=eu (w.alloc (.cells #[.int .i64 t.op,.int .i64 t.num,.string t.name,.slice A t.kids.length c] 64)) (.cells #[.slice none 0 0] 120);rw[show(w.alloc (.cells #[.int .i64 t.op,.int .i64 t.num,.string t.name,.slice A t.kids.length c] 64)).heap.size=w.heap.size+1 from by simp]at h;exact h
 have ae:Row1 (w.heap.size+2) w.heap.size wb (.slice none 0 0) 0 []:=by
  refine⟨?_,J _,fun v hv=>by cases hv⟩;rw[D];have h:=eu ((w.alloc (.cells #[.int .i64 t.op,.int .i64 t.num,.string t.name,.slice A t.kids.length c] 64)).alloc (.cells #[.slice none 0 0] 120)) (.cells #[.slice none 0 0] 120);rw[show((w.alloc (.cells #[.int .i64 t.op,.int .i64 t.num,.string t.name,.slice A t.kids.length c] 64)).alloc (.cells #[.slice none 0 0] 120)).heap.size=w.heap.size+2 from by simp]at h;exact h
 have hI:Tv (w.heap.size+1) (w.heap.size+2) w.heap.size (0,false) wb:=⟨by omega,by omega,_,0,[],_,0,[],ab,ae,lr _,lr _,by simp,.inl rfl⟩
 have V:Visitor 164 #[.pointer (some ⟨w.heap.size+1,0,none⟩),.pointer (some ⟨w.heap.size+2,0,none⟩)] w.heap.size w (Tv (w.heap.size+1) (w.heap.size+2) w.heap.size) (Tv (w.heap.size+1) (w.heap.size+2) w.heap.size) vk (fun x=>9000001-x.1):=
  { enter:=fun args w=>by kernel_rfl
    fin:=fun s w h=>h
    keep:=fun s W W' h hb=>by
     obtain⟨B1,B2,v1,n1,af,v2,n2,xs2,r1,r2,h3⟩:=h;exact⟨B1,B2,v1,n1,af,v2,n2,xs2,r1.below hb,r2.below hb,h3⟩
    lose:=fun s t d=>by show 9000001-s.1≤9000001-(s.1+1)+1;omega
    call:=fun s t d A c W hI ax hV hd hr=>(WH _ _ _ (by omega) s t d A c W hI ax.size (by omega)).mono fun e w2 ⟨h1,h2,h3⟩=>⟨h1,⟨h2,fun _=>h2⟩,h3⟩}
 have Bv:=Ta V rfl t.size t 1 A c (0,false) wb (lr _) (by omega) (by show t.size≤9000001-0;omega) hV hI hb1;have O:=aaF t 1 (0,false);rw[O.1]at Bv;have ar:Hid ((kN vk t 1 (0,false)).1.2=hasNext t):=by show _=_;rw[O.2];rfl
 rw[D]at Bv;have yj:=Hd Bv;have ag:=Hd hb1;have jy:=Hd D;obtain⟨F,HF⟩:=ak (ada t w);rw[←HF];unfold Tm.val at yj⊢;clear hb1 ab ae hI V Bv D hV hsz O J;go_in;go_wp2_with fail;refine yj.mono ?_;rintro e w1 ⟨rfl,I,ho⟩;rw[←jy]at ho;obtain⟨B1,B2,v1,n1,af,v2,n2,xs2,r1,r2,l1,l2,hz,av⟩:=I.1;rw[ar]at hz;have Y:=ag.trans ho.below
 obtain⟨a1,m1,c1,rfl⟩:∃a m c,v1=.slice a m c:=by
  rcases r1.own.2 with⟨h,_⟩|⟨g,cap,cur,h,_⟩
  ·exact⟨_,_,_,h⟩
  ·exact⟨_,_,_,h⟩
 obtain⟨a2,c2,rfl⟩:∃a c,v2=.slice a n2 c:=by
  rcases r2.own.2 with⟨h,h0⟩|⟨g,cap,cur,h,_⟩
  ·exact⟨_,_,by rw[h,h0]⟩
  ·exact⟨_,_,h⟩
 have q1:=r1.cell;have q2:=r2.cell;have f1:=r1.frozen;have f2:=r2.frozen;have ay:=r1.lt;have az:=r2.lt;have ai:=Hd Y;have HZ:=Hd hz;clear I ho r1 r2 l1 l2 hz av Y;have aE:w1.cell? ⟨w.heap.size+1+1,0,none⟩=some (.slice a2 n2 c2):=q2;have aw:w1.frozen? ⟨w.heap.size+1+1,0,none⟩=false:=f2;clear q2 f2;go_wp2_with fail
 go_region
 obtain⟨w3,G⟩:=aj (((w1.setCell ⟨w.heap.size+1,0,none⟩ (.slice a1 m1 c1)).setCell ⟨w.heap.size+1+1,0,none⟩ (.slice a2 n2 c2)).drew);rw[←G]
 have z1:w3.cell? ⟨w.heap.size+1,0,none⟩=some (.slice a1 m1 c1):=by
  rw[G];go_simp
 have z2:w3.cell? ⟨w.heap.size+1+1,0,none⟩=some (.slice a2 n2 c2):=by
  rw[G];go_simp
 have aa:Below w.heap.size w w3:=by
  rw[G];exact((ai.setCell (p:=⟨w.heap.size+1,0,none⟩) (by simp) _).setCell (p:=⟨w.heap.size+1+1,0,none⟩) (by simp;omega) _).drew
 have ao:=Hd aa;clear G aa q1 aE f1 aw;go_wp2_with fail;rw[HF];exact bR (v:=.tuple #[.slice a1 m1 c1,.slice a2 n2 c2]) (by simp[results,Tryz.results129,go_sem,z1,z2]) rfl ⟨_,a2,n2,c2,rfl,HZ,ao⟩
def pB(t:Tm)(rule:Nat)(ends:Bool):Bool:=decide (bQ t.op<rule)||(decide (t.op=18)&&!ends)
theorem QK(t:Tm)(rule:Nat)(ends:Bool):nU aO t rule ends=uj (pB t rule ends) (fD aO t.op t.num t.name.data.toList (nX aO t.kids (pB t rule ends||ends)) (iR aO t.kids 0) (aW aO t.op t.kids 0 (pB t rule ends||ends))):=by
 cases t;rw[nU];rfl
theorem bB:∀n,-255≤n→n≤255→(aO n).length≤20:=by
 intro n h1 h2;have h3:n.natAbs<10^3:=by omega
 have D:(l9 n.natAbs).length≤3:=by
  unfold l9
  split
  ·decide
  ·have:=LP (b:=10) (by decide) 3 _ h3
   simpa using this
 unfold aO
 split<;>simp<;>omega
def aH(t:Tm):Bs×Int:=if t.check≠0 then([],t.check)else if iW t=false then([],3)else if 65536<(nU aO t 0 true).length then([],4)else(nU aO t 0 true,0)
def aN(op:Int):Nat:=if op=5 then 1 else if op=4 then 2 else if op=3 then 3 else 4
def fO(op:Int):Nat:=if op=5 then 2 else if op=4 then 2 else if op=3 then 3 else 1
def gX(op:Int):Nat:=if op=5 then 1 else if op=4 then 3 else if op=3 then 4 else 1
def uW(op:Int):Bs:=if op=5 then[32,45,62,32]else if op=4 then[32,124,32]else if op=3 then[32,38,32]else[32,85,32]
def jA(op:Int):Bs:=if op=2 then[33]else if op=6 then[69,88,32]else if op=7 then[69,70,32]else if op=8 then[69,71,32]else if op=10 then[65,88,32]else if op=11 then[65,70,32]else[65,71,32]
def eP(op:Int):Bs:=if op=9 then[69,91]else if op=13 then[65,91]else[]
def cZ(op:Int):Bs:=if op=9∨op=13 then[93]else[]
mutual
def aG:Fm→Nat→Bs×Int
 |.mk o e l,least=>
  let r:=if o=1 then([91]++(aH e).1++[93],(aH e).2)else mJ o l
  if r.2≠0 then([],r.2)else if aN o<least then([40]++r.1++[41],0)else(r.1,0)
def mJ(o:Int):List Fm→Bs×Int
 |[]=>([],0)
 |a::r=>EO o (aG a (if bV o=2 then fO o else 4)) r
def EO(o:Int)(x:Bs×Int):List Fm→Bs×Int
 |[]=>(jA o++x.1,x.2)
 |b::_=>if x.2≠0 then([],x.2)else
  let y:=aG b (gX o)
  (eP o++x.1++uW o++y.1++cZ o,y.2)
end
def dX(f:Fm):Bs×Int:=
 if f.check≠0 then([],f.check)else
 if (aG f 1).2≠0 then([],(aG f 1).2)else if 65536<(aG f 1).1.length then([],4)else((aG f 1).1,0)
theorem og(t:Tm):(aH t).1.length≤65536:=by
 unfold aH
 split
 ·simp
 ·split
  ·simp
  ·split
   ·simp
   ·show(nU aO t 0 true).length≤65536;omega
theorem Tx(op:Int):(jA op).length≤3:=by
 unfold jA
 iterate 6 (split;· simp)
 simp
theorem aaH(op:Int):(uW op).length≤4:=by
 unfold uW
 iterate 3 (split;· simp)
 simp
theorem Pg(op:Int):(eP op).length≤2:=by
 unfold eP
 iterate 2 (split;· simp)
 simp
theorem L_(op:Int):(cZ op).length≤1:=by
 unfold cZ
 split<;>simp
mutual
theorem dM:∀(f:Fm) (least:Nat),(aG f least).1.length≤65600*f.size
 |.mk o e l,least=>by
  have h1:=Ma o l;have h2:=og e;rw[aG,Fm.size]
  have h3:(if o=1 then([91]++(aH e).1++[93],(aH e).2)else mJ o l).1.length≤65600*Fm.aA l+65540:=by
   split
   ·simp only[List.length_append,List.length_cons,List.length_nil];omega
   ·omega
  generalize (if o=1 then([91]++(aH e).1++[93],(aH e).2)else mJ o l)=r at h3⊢
  split
  ·simp
  ·split
   ·simp only[List.length_append,List.length_cons,List.length_nil];omega
   ·show r.1.length≤_;omega
theorem Ma:∀(o:Int) (l:List Fm),(mJ o l).1.length≤65600*Fm.aA l+10
 |o,[]=>by rw[mJ];simp
 |o,a::r=>by
  rw[mJ,Fm.aA];have h1:=dM a (if bV o=2 then fO o else 4);have h2:=abx o (aG a (if bV o=2 then fO o else 4)) r;omega
theorem abx:∀(o:Int) (x:Bs×Int) (l:List Fm),(EO o x l).1.length≤x.1.length+65600*Fm.aA l+10
 |o,x,[]=>by
  have:=Tx o;rw[EO,Fm.aA];simp only[List.length_append];omega
 |o,x,b::r=>by
  have h1:=dM b (gX o);have h2:=aaH o;have h3:=Pg o;have D:=L_ o;rw[EO,Fm.aA]
  split
  ·simp
  ·simp only[List.length_append]
   generalize 65600*Fm.aA r=z at *
   omega
end
mutual
def xS(w:World)(g o:Nat):Fm→Prop
 |.mk op e l=>w.cell? ⟨g,o,none⟩=some (.int .i64 op)∧gB w g (o+1) e ∧
  ∃A c,w.cell? ⟨g,o+5,none⟩=some (.slice A l.length c)∧l.length≤c∧c≤maxLen∧(l=[]∨∃g' o',A=some ⟨g',o',none⟩∧g'<w.heap.size∧mZ w g' o' l)
def mZ(w:World)(g o:Nat):List Fm→Prop
 |[]=>True
 |t::r=>xS w g o t∧mZ w g (o+6) r
end
def KI(w:World)(A:Option Addr)(l:List Fm):Prop:=l=[]∨∃g' o',A=some ⟨g',o',none⟩∧g'<w.heap.size∧mZ w g' o' l
mutual
theorem xS.below{B:Nat}{w w':World}(hb:Below B w w')(I:B=w.heap.size):∀{t:Fm}{g o:Nat},g<B→xS w g o t→xS w' g o t
 |.mk op e l,g,o,hg,h=>by
  rw[xS]at h⊢;obtain⟨h0,h1,A,c,h3,J,h5,D⟩:=h;refine⟨by rw[hb.cell (p:=⟨g,_,none⟩) hg];exact h0,gB.below hb I hg h1,A,c,by rw[hb.cell (p:=⟨g,_,none⟩) hg];exact h3,J,h5,?_⟩
  rcases D with D|⟨g',O,rfl,G,D⟩
  ·exact .inl D
  ·exact .inr ⟨g',O,rfl,lL G hb.size,mZ.below hb I (by omega) D⟩
theorem mZ.below{B:Nat}{w w':World}(hb:Below B w w')(D:B=w.heap.size):∀{l:List Fm}{g o:Nat},g<B→mZ w g o l→mZ w' g o l
 |[],g,o,hg,h=>by rw[mZ];trivial
 |t::r,g,o,hg,h=>by
  rw[mZ]at h⊢;exact⟨xS.below hb D hg h.1,mZ.below hb D hg h.2⟩
end
theorem KI.below{B:Nat}{w w':World}{A:Option Addr}{l:List Fm}(h:KI w A l)(hb:Below B w w')(G:B=w.heap.size):KI w' A l:=by
 rcases h with h|⟨g',I,rfl,D,h⟩
 ·exact .inl h
 ·exact .inr ⟨g',I,rfl,lL D hb.size,mZ.below hb G (by omega) h⟩
theorem mZ.get:∀{w:World} {l:List Fm} {g o j:Nat} {t:Fm},mZ w g o l→l[j]?=some t→xS w g (o+6*j) t
 |w,x::r,g,o,0,t,h,hj=>by
  rw[mZ]at h;simp at hj;subst hj;exact h.1
 |w,x::r,g,o,j+1,t,h,hj=>by
  rw[mZ]at h;have:=mZ.get h.2 (j:=j) (by simpa using hj)
  rwa [show o+6+6*j=o+6*(j+1)from by omega]at this
structure pO(w:World)(Ae:Option Addr)(ce:Nat)(A:Option Addr)(c:Nat)(t:Fm):Prop where
 tm:zx w Ae ce t.tm
 cap:t.kids.length≤c
 bU:c≤maxLen
 kids:KI w A t.kids
theorem pO.below{B:Nat}{w w':World}{Ae A:Option Addr}{ce c:Nat}{t:Fm}(h:pO w Ae ce A c t)(hb:Below B w w')(D:B=w.heap.size):pO w' Ae ce A c t:=⟨h.tm.below hb D,h.cap,h.bU,h.kids.below hb D⟩
def Fm.val(Ae:Option Addr)(ce:Nat)(A:Option Addr)(c:Nat)(t:Fm):Value:=.agg #[.int .i64 t.op,.int .i64 t.tm.op,.int .i64 t.tm.num,.string t.tm.name,.slice Ae t.tm.kids.length ce,.slice A t.kids.length c]
theorem xS.open{w:World}{g o:Nat}{t:Fm}(h:xS w g o t):w.cell? ⟨g,o,none⟩=some (.int .i64 t.op)∧w.cell? ⟨g,o+1,none⟩=some (.int .i64 t.tm.op)∧w.cell? ⟨g,o+2,none⟩=some (.int .i64 t.tm.num)∧w.cell? ⟨g,o+3,none⟩=some (.string t.tm.name) ∧
 ∃Ae ce A c,w.cell? ⟨g,o+4,none⟩=some (.slice Ae t.tm.kids.length ce)∧w.cell? ⟨g,o+5,none⟩=some (.slice A t.kids.length c)∧pO w Ae ce A c t:=by
 cases t with
 |mk op e l=>
  rw[xS]at h;obtain⟨h0,h1,A,c,h3,G,h5,I⟩:=h;obtain⟨D,e1,e2,Ae,ce,e3,hv⟩:=h1.open;exact⟨h0,D,e1,e2,Ae,ce,A,c,e3,h3,hv,G,h5,I⟩
theorem xS.mk{w:World}{g o:Nat}{t:Fm}{Ae A:Option Addr}{ce c:Nat}(h0:w.cell? ⟨g,o,none⟩=some (.int .i64 t.op))(h1:w.cell? ⟨g,o+1,none⟩=some (.int .i64 t.tm.op))(h2:w.cell? ⟨g,o+2,none⟩=some (.int .i64 t.tm.num))(h3:w.cell? ⟨g,o+3,none⟩=some (.string t.tm.name))
 (h4:w.cell? ⟨g,o+4,none⟩=some (.slice Ae t.tm.kids.length ce)) (h5:w.cell? ⟨g,o+5,none⟩=some (.slice A t.kids.length c)) (h:pO w Ae ce A c t):xS w g o t:=by
 cases t with
 |mk op e l=>
  rw[xS];exact⟨h0,gB.mk h1 h2 h3 h4 h.tm,A,c,h5,h.cap,h.bU,h.kids⟩
def iJ(w:World)(bx:Nat)(Ae:Option Addr)(ne ce:Nat)(A:Option Addr)(n c:Nat)(t:Fm):Prop:=w.heap[bx]?=some (.cells #[.int .i64 t.op,.int .i64 t.tm.op,.int .i64 t.tm.num,.string t.tm.name,.slice Ae ne ce,.slice A n c] 67 (0,0))
section
variable {w w':World} {bx:Nat} {Ae A:Option Addr} {ne ce n c:Nat} {t:Fm}
theorem iJ.c0(h:iJ w bx Ae ne ce A n c t):w.cell? ⟨bx,0,none⟩=some (.int .i64 t.op):=by rw[cR w bx 0 _ _ (0,0) h];rfl
theorem iJ.c1(h:iJ w bx Ae ne ce A n c t):w.cell? ⟨bx,1,none⟩=some (.int .i64 t.tm.op):=by rw[cR w bx 1 _ _ (0,0) h];rfl
theorem iJ.c2(h:iJ w bx Ae ne ce A n c t):w.cell? ⟨bx,2,none⟩=some (.int .i64 t.tm.num):=by rw[cR w bx 2 _ _ (0,0) h];rfl
theorem iJ.c3(h:iJ w bx Ae ne ce A n c t):w.cell? ⟨bx,3,none⟩=some (.string t.tm.name):=by rw[cR w bx 3 _ _ (0,0) h];rfl
theorem iJ.c4(h:iJ w bx Ae ne ce A n c t):w.cell? ⟨bx,4,none⟩=some (.slice Ae ne ce):=by rw[cR w bx 4 _ _ (0,0) h];rfl
theorem iJ.c5(h:iJ w bx Ae ne ce A n c t):w.cell? ⟨bx,5,none⟩=some (.slice A n c):=by rw[cR w bx 5 _ _ (0,0) h];rfl
theorem iJ.lt(h:iJ w bx Ae ne ce A n c t):bx<w.heap.size:=lH h
theorem iJ.below{B:Nat}(h:iJ w bx Ae ne ce A n c t)(k:Below B w w')(hb:bx<B):iJ w' bx Ae ne ce A n c t:=(k.block bx hb).trans h
end
end Go.Proofs.YtkhoeoilamddaaaGreatDoor
