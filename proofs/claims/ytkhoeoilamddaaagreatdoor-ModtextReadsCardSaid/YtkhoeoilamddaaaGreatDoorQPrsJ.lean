/- Walks and plain words: PrsJ PrsK0 PrsK PrsL. -/
import Derived.Test.YtkhoeoilamddaaaGreatDoorQPrsF
import Derived.Deep.Cut
namespace Go.Proofs.YtkhoeoilamddaaaGreatDoor
open Go.RowKit
set_option linter.unusedVariables false
set_option linter.unusedSimpArgs false
set_option maxRecDepth 100000
set_option maxHeartbeats 8000000
theorem af3{R c d i j:Nat}{A A':Option Addr}{c':Nat}{l:List Tok}{w D:World}{t:Tm}(op:Int)(ab:i<j)(ae:j≤l.length)(Og:R<w.heap.size)(hR:iZ D R A l.length c j d)(hO:Only (fun q=>q=R) w D)(hs:w.heap.size<D.heap.size)(hV:aD (fun q=>w.heap.size<q) D A' c' t) :
 PQ R A c d l i (.ok (dD op [t]) j) w (.returned (.agg #[.int .i64 op,.int .i64 0,.string ⟨#[]⟩,.slice (some ⟨D.heap.size,0,none⟩) 1 1])) (((((D.setCell ⟨w.heap.size,0,none⟩ (.int .i64 op)).setCell ⟨w.heap.size,1,none⟩ (.int .i64 0)).setCell ⟨w.heap.size,2,none⟩ (.string ⟨#[]⟩)).setCell ⟨w.heap.size,3,none⟩ (.slice (some ⟨D.heap.size,0,none⟩) 1 1)).alloc (.cells #[.int .i64 t.op,.int .i64 t.num,.string t.name,.slice A' t.kids.length c'] 64)):=by
 obtain⟨G,I⟩:=aj ((((D.setCell ⟨w.heap.size,0,none⟩ (.int .i64 op)).setCell ⟨w.heap.size,1,none⟩ (.int .i64 0)).setCell ⟨w.heap.size,2,none⟩ (.string ⟨#[]⟩)).setCell ⟨w.heap.size,3,none⟩ (.slice (some ⟨D.heap.size,0,none⟩) 1 1));rw[←I];have hne:R≠w.heap.size:=by omega
 have N_:G.heap.size=D.heap.size:=by rw[I];simp
 have aa:iZ G R A l.length c j d:=by
  rw[I];unfold iZ;rw[iw _ ⟨w.heap.size,3,none⟩ R _ hne,iw _ ⟨w.heap.size,2,none⟩ R _ hne,iw _ ⟨w.heap.size,1,none⟩ R _ hne,iw _ ⟨w.heap.size,0,none⟩ R _ hne];exact hR
 have af:aR (fun q=>w.heap.size<q) D G:=by
  rw[I];exact(((aR.refl.set (by omega) _).set (by omega) _).set (by omega) _).set (by omega) _
 have Y:Only (fun q=>q=R) w G:=by rw[I];exact Ja hO
 obtain⟨O,J⟩:=aj (G.alloc (.cells #[.int .i64 t.op,.int .i64 t.num,.string t.name,.slice A' t.kids.length c'] 64));rw[←J];have iY:=dz J;have ag:O.heap.size=D.heap.size+1:=by rw[J];simp[N_]
 have GY:O.heap[D.heap.size]?=some (.cells (bY [⟨t,A',c'⟩]).toArray 64 (0,0)):=by rw[J,←N_];exact eu G _
 have nS:aR (fun q=>w.heap.size<q) D O:=af.trans (Kb iY);refine⟨⟨some ⟨D.heap.size,0,none⟩,1,rfl,lr _,by unfold maxLen;omega,zl _,.inr ⟨D.heap.size,0,rfl,Nat.le_of_lt hs,by omega,?_⟩⟩,ab,ae,aa.below iY (by omega),Y.trans (Ob iY)⟩
 refine jP [⟨t,A',c'⟩] 0 (fun k v hv=>by
  rw[Nat.zero_add,cR _ _ k _ _ (0,0) GY]
  simpa using hv) ?_
 intro e he;rw[List.mem_singleton.1 he];exact hV.keep nS (fun q _ h=>Nat.le_of_lt h)
theorem dL{l:List Tok}{i:Nat}{k:Int}{s:Bs}(h:ah l i k s=true):i<l.length:=by
 rcases Nat.lt_or_ge i l.length with h1|h1
 ·exact h1
 ·exfalso
  have hn:l[i]?=none:=List.getElem?_eq_none h1;unfold ah at h;rw[hn]at h;cases h
theorem adE(R:Nat)(A:Option Addr)(c d:Nat)(l:List Tok)(P PN:jN)(hd:d≤256)(hF:KR R A c d l 192 (.pointer (some ⟨R,0,none⟩)) (fun _=>True) P)(hI:d<256→KR R A c (d+1) l 173 (.pointer (some ⟨R,0,none⟩)) (fun _=>True) PN) :
 KR R A c d l 173 (.pointer (some ⟨R,0,none⟩)) (fun _=>True) (Kk l (if d=256 then none else some PN) P):=by
 intro i w hi hR hP hw;have hlen:=hP.len;have fC:=hR.lt;obtain⟨wa,af⟩:=aj (w.alloc (.cells #[.int .i64 0,.int .i64 0,.string ⟨#[]⟩,.slice none 0 0] 64));have ar:=dz af;have b4:wa.heap.size=w.heap.size+1:=by rw[af];simp
 have bj:wa.heap[w.heap.size]?=some (.cells #[.int .i64 0,.int .i64 0,.string ⟨#[]⟩,.slice none 0 0] 64 (0,0)):=by rw[af];exact eu w _
 have a8:Only (fun q=>q=R) w wa:=Ob ar;have bo:Calls Tryz.prog 175 #[.pointer (some ⟨R,0,none⟩),.int .i64 4,.string ⟨#[33]⟩] wa fun e w'=>e=.returned (.bool (ah l i 4 [33]))∧∃n,w'=wa.drewN n:=DI R A c i d l 4 ⟨#[33]⟩ wa (hR.below ar fC) (hP.only a8) (by omega);obtain⟨F,vU⟩:=aj (PQ R A c d l i (Kk l (if d=256 then none else some PN) P i) w)
 have kI:Hid (F=PQ R A c d l i (if ah l i 4 [33]then(if d=256 then .bad i 17 else PN (i+1)).then fun t j=>.ok (dD 5 [t]) j else(P i).then fun t j=>if au l j [10,11,12,13]=0 then .ok t j else(P (j+1)).then fun u k=>.ok (dD (au l j [10,11,12,13]) [t,u]) k) w):=by
  show _=_;rw[vU]
  by_cases h:d=256
  ·simp only[h,if_true];rfl
  ·simp only[h,if_false];rfl
 rw[←vU];have bz:=Hd (fun(W:World)(j:Nat)(hj:j<l.length)(b2:iZ W R A l.length c j d)(qx:iI W R A c l)=>Cu R A c d l 173 (.pointer (some ⟨R,0,none⟩)) true (fun _=>True) PN j W (fun _ _=>by kernel_rfl) (fun _ _ _ _=>trivial) hI hd hj b2 qx trivial);have bC:=Hd bo;have bL:=Hd af;have bJ:=Hd a8;have b1:=Hd bj;have Am:=Hd hF;have HP:=Hd hP;have SI:=Hd (hR.below ar fC);clear bo vU af ar a8 bj hF hP hw hR hI;go_in;go_wp2_with fail;rw[←bL];refine bC.mono ?_;rintro e w1 ⟨rfl,n1,hw1⟩;have wH:Hid (Only (fun q=>q=R) w w1):=by show Only _ _ _;rw[hw1];exact bJ.drewN n1
 have qH:Hid (w1.heap[w.heap.size]?=some (.cells #[.int .i64 0,.int .i64 0,.string ⟨#[]⟩,.slice none 0 0] 64 (0,0))):=by show _=_;rw[hw1];exact b1
 have b8:w1.heap.size=w.heap.size+1:=by rw[hw1];exact b4
 have aw:Hid (iZ w1 R A l.length c i d):=by show iZ _ _ _ _ _ _ _;rw[hw1];exact SI.drewN n1
 have ao:=HP.only wH;clear hw1
 by_cases Mt:ah l i 4 [33]=true
 ·have bE:Hid (F=PQ R A c d l i ((if d=256 then .bad i 17 else PN (i+1)).then fun t j=>.ok (dD 5 [t]) j) w):=by show _=_;rw[kI,iP Mt]
  have D:Calls Tryz.prog 174 #[.pointer (some ⟨R,0,none⟩),.func (.func 173) #[.pointer (some ⟨R,0,none⟩)] #[]] w1 (PQ R A c d l i (if d=256 then .bad i 17 else PN (i+1)) w1):=bz w1 i (dL Mt) aw ao;rw[Mt];obtain⟨r2,J⟩:=aj ((if d=256 then .bad i 17 else PN (i+1)));have dJ:Hid (F=PQ R A c d l i (r2.then fun t j=>.ok (dD 5 [t]) j) w):=by show _=_;rw[bE,J]
  rw[←J]at D;have Cx:=Hd D;clear D J Mt ao;go_wp2_with fail;refine Cx.mono ?_;intro e w6 hq
  cases r2 with
  |bad j x=>
   obtain⟨rfl,iC⟩:=hq;refine(show _∧_ from⟨rfl,?_⟩);rw[dJ];exact⟨rfl,wH.trans iC⟩
  |ok t j=>
   obtain⟨⟨A',c',rfl,hV⟩,aS,a7,uI,G⟩:=hq;have br:=G.size;obtain⟨n2,I⟩:=aj t.kids.length;unfold Tm.val;rw[←I];have Pq:=Hd ((G.block w.heap.size (by omega) (by omega)).trans qH);obtain⟨v0,v1,v2,v3,zq⟩:=q4 Pq;have az:w.heap.size<w6.heap.size:=by omega
   have kU:=Hd I;have o7:=Hd uI;have Fy:=Hd G;have HV:=Hd hV;clear I uI G hV;go_wp2_with fail;refine bR (Gg (aK (ni Pq))) rfl ?_;rw[dJ,kU];exact af3 5 aS a7 fC o7 (wH.trans Fy) az (HV.keep Kr (fun q _ h=>by omega))
 ·have aQ:Calls Tryz.prog 192 #[.pointer (some ⟨R,0,none⟩)] w1 (PQ R A c d l i (P i) w1):=Am i w1 hi aw ao trivial;obtain⟨r1,ba⟩:=aj (P i);have bE:Hid (F=PQ R A c d l i (r1.then fun t j=>if au l j [10,11,12,13]=0 then .ok t j else(P (j+1)).then fun u k=>.ok (dD (au l j [10,11,12,13]) [t,u]) k) w):=by show _=_;rw[kI,iN Mt,ba]
  rw[←ba]at aQ;have bn:ah l i 4 [33]=false:=by simpa using Mt
  rw[bn];have bw:=Hd aQ;clear aQ ba Mt ao bn aw;go_wp2_with fail;refine bw.mono ?_;intro e w4 hq
  cases r1 with
  |bad j x=>
   obtain⟨rfl,iC⟩:=hq;refine(show _∧_ from⟨rfl,?_⟩);rw[bE];exact⟨rfl,wH.trans iC⟩
  |ok t j=>
   obtain⟨⟨A',c',rfl,hV⟩,aS,a7,vD,iC⟩:=hq;have b3:=iC.size;obtain⟨n2,I⟩:=aj t.kids.length;unfold Tm.val;rw[←I];obtain⟨bt,ab⟩:=aj w4.heap.size;obtain⟨wt,ai⟩:=aj (w4.alloc (.cells #[.int .i64 t.op,.int .i64 t.num,.string t.name,.slice A' n2 c'] 64));have xX:=dz ai;have bv:wt.heap.size=bt+1:=by rw[ai,ab];simp
   have vF:wt.heap[bt]?=some (.cells #[.int .i64 t.op,.int .i64 t.num,.string t.name,.slice A' n2 c'] 64 (0,0)):=by rw[ai,ab];exact eu w4 _
   obtain⟨wo,ag⟩:=aj (wt.alloc (.cells #[.int .i64 10,.int .i64 11,.int .i64 12,.int .i64 13] 3));have Uj:=dz ag;have bu:wo.heap.size=bt+2:=by rw[ag];simp[bv]
   have aE:Only (fun q=>q=R) w1 wo:=iC.trans ((Ob xX).trans (Ob Uj));have aF:iZ wo R A l.length c j d:=(vD.below xX (by omega)).below Uj (by omega);have JV:=(Uj.block bt (by omega)).trans vF
   have bb:Calls Tryz.prog 146 #[.pointer (some ⟨R,0,none⟩),.slice (some ⟨wt.heap.size,0,none⟩) 4 4] wo fun e w'=>e=.returned (.int .i64 (au l j [10,11,12,13]))∧∃n,w'=wo.drewN n:=
    zR R A c j d l wt.heap.size 4 [10,11,12,13] wo aF (HP.only (wH.trans aE)) (by omega) (by rw[ag];exact tY wt [10,11,12,13]) (by simp) (by omega)
   rw[bv]at bb;have HK:Hid (aR (fun q=>w1.heap.size≤q) w4 wo):=(Kb xX).trans (Kb Uj);have qj:=Hd bb;have bW:=Hd ai;have bP:=Hd ag;have oW:=Hd ab;have kU:=Hd I;clear I ai ag xX Uj vF bb;go_wp2_with fail;rw[←oW,←bW,←bP];refine qj.mono ?_;rintro e O ⟨rfl,q,gH⟩;have Ug:Only (fun q=>q=R) w1 O:=by rw[gH];exact aE.drewN q
   have bk:iZ O R A l.length c j d:=by rw[gH];exact aF.drewN q
   have aJ:O.heap[bt]?=some (.cells #[.int .i64 t.op,.int .i64 t.num,.string t.name,.slice A' n2 c'] 64 (0,0)):=by rw[gH];exact JV
   have cb:O.heap.size=bt+2:=by rw[gH];exact bu
   have b7:w1.heap.size≤bt:=by rw[ab];exact b3
   have aP:bt≠R:=by omega
   have bd:=(Ug.block w.heap.size (by omega) (by omega)).trans qH;have bp:aR (fun q=>w1.heap.size≤q) w4 O:=by rw[gH];exact⟨by show w4.heap.size≤wo.heap.size;omega,fun q hq hl=>HK.block q hq hl⟩
   have Uh:aD (fun q=>w.heap.size<q) O A' c' t:=hV.keep bp (fun q _ h=>by omega);clear bp ab gH bu aE aF JV vD;have OL:=Hd bk;have bg:=Hd Ug;have ay:=Hd Uh;have bh:=Hd bd;have pU:=Hd aJ;obtain⟨v0,v1,v2,v3,zq⟩:=q4 bd;obtain⟨y0,y1,y2,y3,xq⟩:=q4 aJ;have Jb:w.heap.size<O.heap.size:=by omega
   have b0:bt<O.heap.size:=by omega
   clear bk Ug Uh bd aJ hV
   by_cases hz:au l j [10,11,12,13]=0
   ·have ax:Hid (F=PQ R A c d l i (.ok t j) w):=by show _=_;rw[bE];show PQ R A c d l i (if au l j [10,11,12,13]=0 then _ else _) w=_;rw[iP hz]
    rw[hz];clear hz;go_wp2_with fail;refine bR (Gg (ni bh)) rfl ?_;rw[ax];have h:=oq (.int .i64 t.op) (.int .i64 t.num) (.string t.name) (.slice A' n2 c') aS a7 fC OL (wH.trans bg) ay;unfold Tm.val at h;rw[←kU]at h;exact h
   ·have b5:(au l j [10,11,12,13]==0)=false:=by simpa using hz
    have b6:=rO hz;have ax:Hid (F=PQ R A c d l i ((P (j+1)).then fun u k=>.ok (dD (au l j [10,11,12,13]) [t,u]) k) w):=by show _=_;rw[bE];show PQ R A c d l i (if au l j [10,11,12,13]=0 then _ else _) w=_;rw[iN hz]
    obtain⟨zz,bi⟩:=ak (au l j [10,11,12,13]);rw[←bi]at b5⊢;have c1:=OL.c1;have f1:=OL.frozen 1;clear hz;go_wp2_with fail;refine wp_region_any (by kernel_rfl) ?_
    change wpAny _ _ _ _ _ _ _ (World.drew _)
    obtain⟨W3,bl⟩:=aj ((O.setCell ⟨R,1,none⟩ (.int .i64 ((j:Int)+1))).drew);have hwn:yU R A l.length c d (j+1) O ((O.setCell ⟨R,1,none⟩ (.int .i64 ((j:Int)+1))).drew):=zG (m:=1) (jf (m:=0) OL);rw[←bl]at hwn⊢;have ae:Only (fun q=>q=R) O W3:=hwn.2.1;have b9:W3.heap.size=O.heap.size:=hwn.2.2;have Ms:=wH.trans (bg.trans ae);have D:Calls Tryz.prog 192 #[.pointer (some ⟨R,0,none⟩)] W3 (PQ R A c d l (j+1) (P (j+1)) W3):=Am (j+1) W3 (by omega) hwn.1 (HP.only Ms) trivial;have bm:=(ae.block bt b0 aP).trans pU;have Oh:=Hd ((ae.block w.heap.size Jb (by omega)).trans bh);have av:=Hd bm;have bf:Hid (aR (fun q=>w.heap.size<q) O W3):=aR.cO ae (by omega);obtain⟨r2,J⟩:=aj (P (j+1));have dJ:Hid (F=PQ R A c d l i (r2.then fun u k=>.ok (dD zz [t,u]) k) w):=by show _=_;rw[ax,J,bi]
    rw[← J]at D;have Cx:=Lib.hid D;have Kn:=Lib.hid Ms;clear bl hwn ae Ms D J bm c1 f1 zq v0 v1 v2 v3 y0 y1 y2 y3 xq;obtain⟨y0,y1,y2,y3,xq⟩:=q4 av;clear xq;refine wpAny_take (i:=0) (oi:={dst:=some 32,op:=Op.move (Operand.tmp 4),type:=3,pos := "ttext.go:279",after:=#[],guard:=none}) (v:=?_) rfl (by kernel_rfl) (by kernel_rfl) (by kernel_rfl) (fun _ _ _ h=>h) (Or.inl ⟨by rfl,?hy⟩) ?_
    case hy=>intro w0;go_simp;(first|done|with_reducible rfl)
    (try simp only[Act.put,aT,aU,aV]);refine wpAny_take (i:=2) (oi:={dst:=some 34,op:=Op.move (Operand.tmp 0),type:=182,pos := "ttext.go:279",after:=#[],guard:=none}) (v:=?_) rfl (by kernel_rfl) (by kernel_rfl) (by kernel_rfl) (fun _ _ _ h=>h) (Or.inl ⟨by rfl,?hy⟩) ?_
    case hy=>intro w0;go_simp;(first|done|with_reducible rfl)
    try simp only[Act.put,aT,aU,aV]
    cases r2 with
    |bad jb xb=>
     refine wpAny_ready (rs:=[1,3]) (by kernel_rfl) (by simp) ?_;refine AllReady.cons (o:={dst:=some 33,op:=Op.load 64 (Operand.tmp 3),type:=64,pos := "ttext.go:279",after:=#[],guard:=none}) rfl (fun K hK=>?_) ?_
     ·go_simp;refine hK _ _ ?_;clear hK K;(try simp only[Act.put,aT,aU,aV]);refine wpAny_ready (rs:=[3]) (by kernel_rfl) (by simp) ?_;refine AllReady.cons (o:={dst:=some 35,op:=Op.call {callee:=Callee.value (Operand.func 192),args:=#[Operand.tmp 34],argTypes:=#[182]},type:=64,pos := "ttext.go:279",after:=#[{on:=2,ground:=Ground.data}],guard:=none}) rfl (fun K hK=>?_) AllReady.nil;go_simp;(with_reducible refine(Cx.out).mono ?_);intro e w6 hq;obtain⟨rfl,G⟩:=hq;refine(show _∧_ from⟨rfl,?_⟩);rw[dJ];exact⟨rfl,Kn.trans G⟩
     ·refine AllReady.cons (o:={dst:=some 35,op:=Op.call {callee:=Callee.value (Operand.func 192),args:=#[Operand.tmp 34],argTypes:=#[182]},type:=64,pos := "ttext.go:279",after:=#[{on:=2,ground:=Ground.data}],guard:=none}) rfl (fun K hK=>?_) AllReady.nil;go_simp;(with_reducible refine(Cx.out).mono ?_);intro e w6 hq;obtain⟨rfl,G⟩:=hq;refine(show _∧_ from⟨rfl,?_⟩);rw[dJ];exact⟨rfl,Kn.trans G⟩
    |ok t2 j2=>
     refine wpAny_ready (rs:=[1,3]) (by kernel_rfl) (by simp) ?_;refine AllReady.cons (o:={dst:=some 33,op:=Op.load 64 (Operand.tmp 3),type:=64,pos := "ttext.go:279",after:=#[],guard:=none}) rfl (fun K hK=>?_) ?_
     ·go_simp;refine hK _ _ ?_;clear hK K;(try simp only[Act.put,aT,aU,aV]);refine wpAny_ready (rs:=[3]) (by kernel_rfl) (by simp) ?_;refine AllReady.cons (o:={dst:=some 35,op:=Op.call {callee:=Callee.value (Operand.func 192),args:=#[Operand.tmp 34],argTypes:=#[182]},type:=64,pos := "ttext.go:279",after:=#[{on:=2,ground:=Ground.data}],guard:=none}) rfl (fun K hK=>?_) AllReady.nil;go_simp;(with_reducible refine(Cx.out).mono ?_);intro e w6 hq;obtain⟨⟨A2,c2,rfl,Y⟩,a6,uH,uI,G⟩:=hq;obtain⟨n3,AV⟩:=ak t2.kids.length;unfold Tm.val;rw[← AV];have Fy:=Lib.hid G;have jm:=Lib.hid Y;have o7:=Lib.hid uI;have br:=G.size;have bZ:bt<w6.heap.size:=by omega
      have az:w.heap.size<w6.heap.size:=by omega
      have aa:=(G.block bt (by omega) aP).trans av;have Pq:=Lib.hid ((G.block w.heap.size (by omega) (by omega)).trans Oh);clear Y uI G y0 y1 y2 y3;obtain⟨y0,y1,y2,y3,xq⟩:=q4 aa;clear xq aa;obtain⟨v0,v1,v2,v3,zq⟩:=q4 Pq;refine hK _ _ ?_;clear hK K;(try simp only[Act.put,aT,aU,aV]);refine wpAny_ready (rs:=[4]) (by kernel_rfl) (by simp) ?_;refine AllReady.cons (o:={dst:=some 36,op:=Op.buildSlice 25 2 #[(0,Operand.tmp 33),(1,Operand.tmp 35)],type:=25,pos := "ttext.go:279",after:=#[{on:=1,ground:=Ground.data},{on:=3,ground:=Ground.data}],guard:=none}) rfl (fun K hK=>?_) AllReady.nil;go_simp;refine hK _ _ ?_;clear hK K;(try simp only[Act.put,aT,aU,aV]);refine wpAny_ready (rs:=[5]) (by kernel_rfl) (by simp) ?_;refine AllReady.cons (o:={dst:=some 37,op:=Op.build 64 #[(0,Operand.tmp 32),(3,Operand.tmp 36)],type:=64,pos := "ttext.go:279",after:=#[{on:=0,ground:=Ground.data},{on:=4,ground:=Ground.data}],guard:=none}) rfl (fun K hK=>?_) AllReady.nil;go_simp;refine hK _ _ ?_;clear hK K;(try simp only[Act.put,aT,aU,aV]);refine wpAny_ready (rs:=[6]) (by kernel_rfl) (by simp) ?_
      refine AllReady.cons (o:={dst:=none,op:=Op.store 64 (Operand.tmp 2) (Operand.tmp 37),type:=0,pos := "ttext.go:279",after:=#[{on:=5,ground:=Ground.data},{on:=3,ground:=Ground.chain},{on:=0,ground:=Ground.phase},{on:=1,ground:=Ground.phase},{on:=2,ground:=Ground.phase},{on:=3,ground:=Ground.phase},{on:=4,ground:=Ground.phase},{on:=5,ground:=Ground.phase}],guard:=none}) rfl (fun K hK=>?_) AllReady.nil;go_simp;refine hK _ _ ?_;clear hK K;(try simp only[Act.put,aT,aU,aV]);refine wpAny_done (by kernel_rfl) ?_ _;go_wp2_with fail;refine bodyPost_ret (Gg (sZ (ni Pq))) rfl ?_;rw[dJ,kU,AV];exact GZ zz (by omega) uH fC o7 (Kn.trans Fy) (by omega) ((ay.keep bf (fun q _ h=>h)).keep (aR.cO Fy (by omega)) (fun q _ h=>h)) (jm.keep aR.refl (fun q _ h=>by omega))
     ·refine AllReady.cons (o:={dst:=some 35,op:=Op.call {callee:=Callee.value (Operand.func 192),args:=#[Operand.tmp 34],argTypes:=#[182]},type:=64,pos := "ttext.go:279",after:=#[{on:=2,ground:=Ground.data}],guard:=none}) rfl (fun K hK=>?_) AllReady.nil;go_simp;(with_reducible refine(Cx.out).mono ?_);intro e w6 hq;obtain⟨⟨A2,c2,rfl,Y⟩,a6,uH,uI,G⟩:=hq;obtain⟨n3,AV⟩:=ak t2.kids.length;unfold Tm.val;rw[← AV];have Fy:=Lib.hid G;have jm:=Lib.hid Y;have o7:=Lib.hid uI;have br:=G.size;have bZ:bt<w6.heap.size:=by omega
      have az:w.heap.size<w6.heap.size:=by omega
      have aa:=(G.block bt (by omega) aP).trans av;have Pq:=Lib.hid ((G.block w.heap.size (by omega) (by omega)).trans Oh);clear Y uI G y0 y1 y2 y3;obtain⟨y0,y1,y2,y3,xq⟩:=q4 aa;clear xq aa;obtain⟨v0,v1,v2,v3,zq⟩:=q4 Pq;refine hK _ _ ?_;clear hK K;(try simp only[Act.put,aT,aU,aV]);refine wpAny_ready (rs:=[1]) (by kernel_rfl) (by simp) ?_;refine AllReady.cons (o:={dst:=some 33,op:=Op.load 64 (Operand.tmp 3),type:=64,pos := "ttext.go:279",after:=#[],guard:=none}) rfl (fun K hK=>?_) AllReady.nil;go_simp;refine hK _ _ ?_;clear hK K;(try simp only[Act.put,aT,aU,aV]);refine wpAny_ready (rs:=[4]) (by kernel_rfl) (by simp) ?_;refine AllReady.cons (o:={dst:=some 36,op:=Op.buildSlice 25 2 #[(0,Operand.tmp 33),(1,Operand.tmp 35)],type:=25,pos := "ttext.go:279",after:=#[{on:=1,ground:=Ground.data},{on:=3,ground:=Ground.data}],guard:=none}) rfl (fun K hK=>?_) AllReady.nil;go_simp;refine hK _ _ ?_;clear hK K;(try simp only[Act.put,aT,aU,aV]);refine wpAny_ready (rs:=[5]) (by kernel_rfl) (by simp) ?_;refine AllReady.cons (o:={dst:=some 37,op:=Op.build 64 #[(0,Operand.tmp 32),(3,Operand.tmp 36)],type:=64,pos := "ttext.go:279",after:=#[{on:=0,ground:=Ground.data},{on:=4,ground:=Ground.data}],guard:=none}) rfl (fun K hK=>?_) AllReady.nil;go_simp;refine hK _ _ ?_;clear hK K;try simp only[Act.put,aT,aU,aV]
      refine wpAny_ready (rs:=[6]) (by kernel_rfl) (by simp) ?_;refine AllReady.cons (o:={dst:=none,op:=Op.store 64 (Operand.tmp 2) (Operand.tmp 37),type:=0,pos := "ttext.go:279",after:=#[{on:=5,ground:=Ground.data},{on:=3,ground:=Ground.chain},{on:=0,ground:=Ground.phase},{on:=1,ground:=Ground.phase},{on:=2,ground:=Ground.phase},{on:=3,ground:=Ground.phase},{on:=4,ground:=Ground.phase},{on:=5,ground:=Ground.phase}],guard:=none}) rfl (fun K hK=>?_) AllReady.nil;go_simp;refine hK _ _ ?_;clear hK K;(try simp only[Act.put,aT,aU,aV]);refine wpAny_done (by kernel_rfl) ?_ _;go_wp2_with fail;refine bodyPost_ret (Gg (sZ (ni Pq))) rfl ?_;rw[dJ,kU,AV];exact GZ zz (by omega) uH fC o7 (Kn.trans Fy) (by omega) ((ay.keep bf (fun q _ h=>h)).keep (aR.cO Fy (by omega)) (fun q _ h=>h)) (jm.keep aR.refl (fun q _ h=>by omega))
structure Cy(R:Nat)(A:Option Addr)(c d:Nat)(l:List Tok)(i tb rb rs B0:Nat)(w0 wE wr:World)(v:Value)(acc:List jo)(j:Nat):Prop where
 own:wr.ownsRow B0 64 4 v acc.length (bY acc)
 vals:∀e∈acc,aD (fun q=>B0≤q∧v.ownBlock≠some q) wr e.A e.c e.t
 bN:iZ wr R A l.length c j d
 only:Only (fun q=>q=R) w0 wr
 box:vV R rb wr
 tbx:wr.heap[tb]?=some (.cells #[.int .i64 18,.int .i64 0,.string ⟨#[]⟩,v] 64 (0,0))
 res:wr.heap[rs]?=some (.cells #[.int .i64 0,.int .i64 0,.string ⟨#[]⟩,.slice none 0 0] 64 (0,0))
 ij:i≤j
 jl:j≤l.length
 big:B0≤wr.heap.size
 two:Only (fun q=>q=R∨q=tb) wE wr
 eB:wE.heap.size≤B0
 rsE:wE.heap.size≤rs
structure IfN(R tb rb rs B0:Nat)(w0:World):Prop where
 r0:R<w0.heap.size
 tb0:w0.heap.size≤tb
 rb0:w0.heap.size≤rb
 rs0:w0.heap.size≤rs
 tbB:tb<B0
 rbB:rb<B0
 rsB:rs<B0
 ne1:tb≠rb
 zT:tb≠rs
 ne3:rb≠rs
section
variable {R c d i tb rb rs B0 j j2:Nat} {A:Option Addr} {l:List Tok} {w0 wE wr w':World} {v:Value} {acc:List jo}
theorem Cy.Et(h:Cy R A c d l i tb rb rs B0 w0 wE wr v acc j)(hn:IfN R tb rb rs B0 w0)(D:Only (fun q=>q=R) wr w')(hr:iZ w' R A l.length c j2 d)(J:j≤j2)(I:j2≤l.length):Cy R A c d l i tb rb rs B0 w0 wE w' v acc j2:=by
 have G:R<B0:=by have:=hn.r0;have:=hn.tb0;have:=hn.tbB;omega
 have h1:=hn.r0;have h2:=hn.tb0;have h3:=hn.rs0;have O:=hn.tbB;have h5:=hn.rsB;have Y:=h.big;refine⟨Ui h.own D G,fun e he=>(h.vals e he).keep (aR.cO D (fun hq=>by have:=hq.1;omega)) (fun _ _ h=>h),hr,h.only.trans D,h.box.only D,(D.block tb (by omega) (by omega)).trans h.tbx,(D.block rs (by omega) (by omega)).trans h.res,Nat.le_trans h.ij J,I,Nat.le_trans h.big D.size,h.two.trans (D.mono fun q h=>.inl h),h.eB,h.rsE⟩
theorem Cy.alloc(h:Cy R A c d l i tb rb rs B0 w0 wE wr v acc j)(hn:IfN R tb rb rs B0 w0)(o:Obj):Cy R A c d l i tb rb rs B0 w0 wE (wr.alloc o) v acc j:=
 h.Et hn (Ob ((Br _ _).alloc (lr _) _)) (h.bN.below ((Br _ _).alloc (lr _) _) h.bN.lt) (lr _) h.jl
theorem Cy.drew(h:Cy R A c d l i tb rb rs B0 w0 wE wr v acc j)(hn:IfN R tb rb rs B0 w0):Cy R A c d l i tb rb rs B0 w0 wE wr.drew v acc j:=
 h.Et hn ((Only.refl (F:=fun q=>q=R)).drewN 1) (h.bN.drewN 1) (lr _) h.jl
theorem Cy.put{J:World}{A2:Option Addr}{c2 g cap o:Nat}{t2:Tm}(h:Cy R A c d l i tb rb rs B0 w0 wE wr v acc j)(hn:IfN R tb rb rs B0 w0)(hV:aD (fun q=>B0≤q∧v.ownBlock≠some q) wr A2 c2 t2)
 (hown:J.ownsRow B0 64 4 (.slice (some ⟨g,0,none⟩) (acc.length+1) cap) (acc.length+1) (bY acc++[.int .i64 0,.int .i64 0,.string ⟨#[]⟩,.slice none 0 0])) (hg:wr.grownBy J v.ownBlock) (I:v.ownBlock=some g∨g=wr.heap.size) (ho:o=acc.length*4) :
 Cy R A c d l i tb rb rs B0 w0 wE (((((J.setCell ⟨g,o,none⟩ (.int .i64 t2.op)).setCell ⟨g,o+1,none⟩ (.int .i64 t2.num)).setCell ⟨g,o+2,none⟩ (.string t2.name)).setCell ⟨g,o+3,none⟩ (.slice A2 t2.kids.length c2)).setCell ⟨tb,3,none⟩ (.slice (some ⟨g,0,none⟩) (acc.length+1) cap)) (.slice (some ⟨g,0,none⟩) (acc.length+1) cap) (acc++[⟨t2,A2,c2⟩]) j:=by
 have h1:=hn.r0;have h2:=hn.tb0;have h3:=hn.rs0;have h4:=hn.tbB;have h5:=hn.rsB;have h6:=h.big;have h7:=hn.rbB;have h8:=hn.rb0;have ao:∀q,v.ownBlock=some q→B0≤q∧q<wr.heap.size:=fun q hq=>h.own.lt q hq
 have av:B0≤g:=by
  rcases I with I|I
  ·exact(ao g I).1
  ·omega
 have hk:∀q,v.ownBlock≠some q→q<wr.heap.size→J.heap[q]?=wr.heap[q]?:=fun q hq hl=>hg.block q hl (fun e=>hq e.symm)
 have ai:∀q,v.ownBlock≠some q→q<wr.heap.size→q≠g:=fun q hq hl e=>by
  rcases I with I|I
  ·exact hq (e ▸ I)
  ·omega
 have hold:∀q,q<B0→v.ownBlock≠some q:=fun q hq e=>by have:=(ao q e).1;omega
 obtain⟨O,D⟩:=aj ((((J.setCell ⟨g,o,none⟩ (.int .i64 t2.op)).setCell ⟨g,o+1,none⟩ (.int .i64 t2.num)).setCell ⟨g,o+2,none⟩ (.string t2.name)).setCell ⟨g,o+3,none⟩ (.slice A2 t2.kids.length c2));rw[←D]
 have hS:∀q,q≠g→O.heap[q]?=J.heap[q]?:=fun q hq=>by
  rw[D,iw _ ⟨g,o+3,none⟩ q _ hq,iw _ ⟨g,o+2,none⟩ q _ hq,iw _ ⟨g,o+1,none⟩ q _ hq,iw _ ⟨g,o,none⟩ q _ hq]
 have ar:O.heap.size=J.heap.size:=by rw[D];simp
 have ag:=hg.size
 have ab:O.ownsRow B0 64 4 (.slice (some ⟨g,0,none⟩) (acc.length+1) cap) (acc.length+1) (bY (acc++[⟨t2,A2,c2⟩])):=by
  have x:=((((hown.stored o (.int .i64 t2.op)).1.stored (o+1) (.int .i64 t2.num)).1.stored (o+2) (.string t2.name)).1.stored (o+3) (.slice A2 t2.kids.length c2)).1;rw[←D]at x;have hl:(bY acc).length=o:=by rw[tu,ho]
  have e:((((bY acc++([.int .i64 0,.int .i64 0,.string ⟨#[]⟩,.slice none 0 0]:List Value)).set o (.int .i64 t2.op)).set (o+1) (.int .i64 t2.num)).set (o+2) (.string t2.name)).set (o+3) (.slice A2 t2.kids.length c2)=bY (acc++[⟨t2,A2,c2⟩]):=by
   rw[Fx,←hl];simp[jo.cells,List.set_append_right]
  rw[e]at x;exact x
 have G:∀q,v.ownBlock≠some q→q<wr.heap.size→q≠tb→(O.setCell ⟨tb,3,none⟩ (.slice (some ⟨g,0,none⟩) (acc.length+1) cap)).heap[q]?=wr.heap[q]?:=fun q hq hl hne=>by
  rw[iw _ ⟨tb,3,none⟩ q _ hne,hS q (ai q hq hl)];exact hk q hq hl
 have af:(O.setCell ⟨tb,3,none⟩ (.slice (some ⟨g,0,none⟩) (acc.length+1) cap)).heap.size=J.heap.size:=by simp[ar]
 have aa:aR (fun q=>B0≤q∧v.ownBlock≠some q) wr (O.setCell ⟨tb,3,none⟩ (.slice (some ⟨g,0,none⟩) (acc.length+1) cap)):=⟨by rw[af];exact ag,fun q hq hl=>G q hq.2 hl (by have:=hq.1;omega)⟩
 have ae:∀q,q<wr.heap.size→(B0≤q∧v.ownBlock≠some q)→(B0≤q∧(Value.slice (some ⟨g,0,none⟩) (acc.length+1) cap).ownBlock≠some q):=fun q hq hh=>⟨hh.1,fun e=>by
  have e2:g=q:=by simpa[Value.ownBlock]using e
  exact ai q hh.2 hq e2.symm⟩
 refine⟨?_,?_,?_,?_,?_,?_,?_,h.ij,h.jl,by rw[af];omega,?_,h.eB,h.rsE⟩
 ·rw[List.length_append];have aw:=(ab.lt g rfl).2
  exact ab.kept (row:=some tb) ⟨rfl,rfl,rfl,by simp,fun k hk hne=>iw _ ⟨tb,3,none⟩ k _ (fun e=>hne (by rw[e]))⟩ (.inr (fun e=>by
   have e2:g=tb:=by simpa[Value.ownBlock]using e
   omega))
 ·intro e he
  rcases List.mem_append.1 he with he|he
  ·exact(h.vals e he).keep aa ae
  ·rw[List.mem_singleton.1 he];exact hV.keep aa ae
 ·exact(G R (hold R (by omega)) (by omega) (by omega)).trans h.bN
 ·have Y:=h.only;have e1:O.os=J.os:=by rw[D];rfl
  have e2:O.tape=J.tape:=by rw[D];rfl
  have e3:O.output=J.output:=by rw[D];rfl
  refine⟨e1.trans (hg.os.trans Y.os),e2.trans (hg.tape.trans Y.tape),e3.trans (hg.output.trans Y.output),by rw[af];exact Nat.le_trans Y.size ag,fun q hq hf=>?_⟩;rw[G q (hold q (by omega)) (lL hq Y.size) (by omega)];exact Y.block q hq hf
 ·exact h.box.block (G rb (hold rb h7) (by omega) (fun e=>hn.ne1 e.symm)) (by rw[af];exact ag)
 ·have hx:O.heap[tb]?=some (.cells #[.int .i64 18,.int .i64 0,.string ⟨#[]⟩,v] 64 (0,0)):=(hS tb (by omega)).trans ((hk tb (hold tb h4) (by omega)).trans h.tbx);simp[World.setCell,Array.getElem?_modify,hx]
 ·exact(G rs (hold rs h5) (by omega) (fun e=>hn.zT e.symm)).trans h.res
 ·have Y:=h.two;have h9:=h.eB;have e1:O.os=J.os:=by rw[D];rfl
  have e2:O.tape=J.tape:=by rw[D];rfl
  have e3:O.output=J.output:=by rw[D];rfl
  refine⟨e1.trans (hg.os.trans Y.os),e2.trans (hg.tape.trans Y.tape),e3.trans (hg.output.trans Y.output),by rw[af];exact Nat.le_trans Y.size ag,fun q hq hf=>?_⟩;rw[G q (hold q (by omega)) (lL hq Y.size) (fun e=>hf (.inr e))];exact Y.block q hq hf
end
set_option maxHeartbeats 16000000
theorem T9{o:Array Oper}{i:Nat}{x:Oper}(h:o.toList[i]?=some x):o[i]?=some x:=by simpa using h
def ch3(T:jN)(a b:Tm)(k:Nat):Rs Tm:=(T (k+1)).then fun c m=>.ok (dD 18 [a,b,c]) m
def ch2(l:List Tok)(T:jN)(a:Tm)(j:Nat):Rs Tm:=(T (j+1)).then fun b k=>if ah l k 3 uo then ch3 T a b k else .bad k 16
def Xe(l:List Tok)(T:jN)(i:Nat):Rs Tm:=(T i).then fun a j=>if ah l j 3 um then ch2 l T a j else .bad j 16
def Oi(R:Nat)(A:Option Addr)(c d:Nat)(l:List Tok)(i tb:Nat)(r:Rs Tm)(w0 wE:World)(B:Nat)(e:Ending)(w':World):Prop:=match r with
 |.ok t j=>(∃A' c',e=.returned (t.val A' c')∧w'.heap[tb]?=some (.cells #[.int .i64 t.op,.int .i64 t.num,.string t.name,.slice A' t.kids.length c'] 64 (0,0))∧aD (fun q=>B≤q) w' A' c' t)∧i<j∧j≤l.length∧iZ w' R A l.length c j d∧Only (fun q=>q=R) w0 w'∧Only (fun q=>q=R∨q=tb) wE w'
 |.bad j x=>e=.panicked (thrown j x)∧Only (fun q=>q=R) w0 w'
theorem fH{W:World}{b q o0 o1 o2 o3:Nat}{v0 v1 v2 v3:Value}(h:q≠b):((((W.setCell ⟨b,o0,none⟩ v0).setCell ⟨b,o1,none⟩ v1).setCell ⟨b,o2,none⟩ v2).setCell ⟨b,o3,none⟩ v3).heap[q]?=W.heap[q]?:=by
 rw[iw _ ⟨b,o3,none⟩ q _ h,iw _ ⟨b,o2,none⟩ q _ h,iw _ ⟨b,o1,none⟩ q _ h,iw _ ⟨b,o0,none⟩ q _ h]
theorem World.kQ{W:World}{a b:Addr}{u v:Value}(h:a.block≠b.block):(W.setCell a u).setCell b v=(W.setCell b v).setCell a u:=by
 unfold World.setCell;simp only[World.mk.injEq,and_true]
 apply Array.ext_getElem?
 intro k;simp only[Array.getElem?_modify]
 by_cases h1:b.block=k
 ·by_cases h2:a.block=k
  ·exact absurd (h2.trans h1.symm) h
  ·simp[h1,h2]
 ·simp[h1]
theorem Rx{W:World}{b q p o:Nat}{u v0 v1 v2 v3:Value}(h:q≠b):(((((W.setCell ⟨q,p,none⟩ u).setCell ⟨b,o,none⟩ v0).setCell ⟨b,o+1,none⟩ v1).setCell ⟨b,o+2,none⟩ v2).setCell ⟨b,o+3,none⟩ v3)=((((W.setCell ⟨b,o,none⟩ v0).setCell ⟨b,o+1,none⟩ v1).setCell ⟨b,o+2,none⟩ v2).setCell ⟨b,o+3,none⟩ v3).setCell ⟨q,p,none⟩ u:=by
 rw[World.kQ (a:=⟨q,p,none⟩) (b:=⟨b,o,none⟩) h,World.kQ (a:=⟨q,p,none⟩) (b:=⟨b,o+1,none⟩) h,World.kQ (a:=⟨q,p,none⟩) (b:=⟨b,o+2,none⟩) h,World.kQ (a:=⟨q,p,none⟩) (b:=⟨b,o+3,none⟩) h]
theorem qP{W:World}{B n g cap o:Nat}{T:TypeId}{xs:List Value}{z0 D z2 z3:Value}(h:W.ownsRow B T 4 (.slice (some ⟨g,0,none⟩) n cap) n (xs++[z0,D,z2,z3]))(G:xs.length=o):W.cell? ⟨g,o,none⟩=some z0∧W.cell? ⟨g,o+1,none⟩=some D∧W.cell? ⟨g,o+2,none⟩=some z2∧W.cell? ⟨g,o+3,none⟩=some z3∧∀j,W.frozen? ⟨g,j,none⟩=false:=by
 have I:=h.1;simp only[List.length_append,List.length_cons,List.length_nil,G]at I
 have hc:∀m v,([z0,D,z2,z3]:List Value)[m]?=some v→m<4→W.cell? ⟨g,o+m,none⟩=some v:=fun m v hm J=>by
  rw[h.cellAt (o+m) (by omega),List.getElem?_append_right (by omega),G,Nat.add_sub_cancel_left];exact hm
 exact⟨hc 0 z0 rfl (by omega),hc 1 D rfl (by omega),hc 2 z2 rfl (by omega),hc 3 z3 rfl (by omega),h.frozenAt⟩
theorem Cy.fin{R c d i tb rb rs Y j n:Nat}{A:Option Addr}{l:List Tok}{w0 wE wr:World}{g cap B:Nat}{es:List jo}{v0 v1 v2 v3:Value}(h:Cy R A c d l i tb rb rs Y w0 wE wr (.slice (some ⟨g,0,none⟩) n cap) es j)(hl:es.length=n)(hn:IfN R tb rb rs Y w0)(hB:B≤Y)(aa:i<j) :
 Oi R A c d l i tb (.ok (dD 18 (es.map jo.t)) j) w0 wE B (.returned (.agg #[.int .i64 18,.int .i64 0,.string ⟨#[]⟩,.slice (some ⟨g,0,none⟩) n cap])) ((((wr.setCell ⟨rs,0,none⟩ v0).setCell ⟨rs,1,none⟩ v1).setCell ⟨rs,2,none⟩ v2).setCell ⟨rs,3,none⟩ v3):=by
 have h1:=hn.r0;have h2:=hn.rs0;have h3:=hn.rsB;have h4:=h.only.size;have hk:aR (fun q=>Y≤q) wr ((((wr.setCell ⟨rs,0,none⟩ v0).setCell ⟨rs,1,none⟩ v1).setCell ⟨rs,2,none⟩ v2).setCell ⟨rs,3,none⟩ v3):=(((aR.refl.set (by omega) _).set (by omega) _).set (by omega) _).set (by omega) _;have hg:=h.own.lt g rfl;have hm:(dD 18 (es.map jo.t)).kids.length=n:=by show(es.map jo.t).length=n;rw[List.length_map,hl]
 rcases h.own.2 with⟨D,-⟩|⟨g',G,cur,hv,-,-,O,J,-,-⟩
 ·cases D
 have I:G=cap:=by injection hv with _ _ D;exact D.symm
 rw[I,hl]at O;rw[I]at J;refine⟨⟨some ⟨g,0,none⟩,cap,by unfold Tm.val;rw[hm];rfl,by rw[hm];exact(fH hn.zT).trans h.tbx,⟨by rw[hm];exact O,J,zl _,.inr ⟨g,0,rfl,by omega,by simpa using hg.2,?_⟩⟩⟩,aa,h.jl,(fH (by omega)).trans h.bN,dU (dU (dU (dU h.only h2 _) h2 _) h2 _) h2 _,dU (dU (dU (dU h.two h.rsE _) h.rsE _) h.rsE _) h.rsE _⟩;refine kZ.keep hk (fun q _ hq=>Nat.le_trans hB hq) hg.1 hg.2 ?_;refine jP es 0 (fun k v hv=>?_) (fun e he=>(h.vals e he).keep Kr (fun q _ hq=>hq.1));have D:=h.own.cells (g:=g) rfl k v hv;rw[addr_add]at D;exact D
def nxW(l:List Tok)(R:List Bs→List Tm→jN):List Bs→List Tm→jN
 |[],es,j=>.ok (dD 18 es) j
 |w::ws,es,j=>if ah l j 3 w then R ws es (j+1)else .bad j 16
def chW(l:List Tok)(T:jN):List Bs→List Tm→jN
 |[],es,i=>(T i).then fun a j=>.ok (dD 18 (es++[a])) j
 |w::ws,es,i=>(T i).then fun a j=>if ah l j 3 w then chW l T ws (es++[a]) (j+1)else .bad j 16
theorem aoT(l:List Tok)(T:jN)(ws:List Bs)(es:List Tm)(i:Nat):chW l T ws es i=(T i).then fun a j=>nxW l (chW l T) ws (es++[a]) j:=by cases ws<;>rfl
theorem aoU{G:Rs Tm→Ending→World→Prop}{F:Ending→World→Prop}{l:List Tok}{T:jN}{w:Bs}{ws:List Bs}{es:List Tm}{k:Nat}(h:F=G (nxW l (chW l T) (w::ws) es k)):(ah l k 3 w=true∧F=G (chW l T ws es (k+1)))∨(ah l k 3 w=false∧F=G (.bad k 16)):=by
 change F=G (if ah l k 3 w=true then chW l T ws es (k+1)else .bad k 16)at h
 by_cases hm:ah l k 3 w=true
 ·rw[iP hm]at h;exact .inl ⟨hm,h⟩
 ·rw[iN hm]at h;exact .inr ⟨by simpa using hm,h⟩
theorem aD.Xf{S:Nat→Prop}{w:World}{A:Option Addr}{c:Nat}{t:Tm}(h:aD S w A c t)(o:Obj):aD S (w.alloc o) A c t:=h.keep (Kb ((Br _ _).alloc (lr _) _)) (fun _ _ h=>h)
theorem Mv{w:World}{B n k tb g cap:Nat}{T:TypeId}{u:Value}{xs:List Value}(D:tb≠g)(h:w.ownsRow B T k (.slice (some ⟨g,0,none⟩) n cap) n xs):(w.setCell ⟨tb,3,none⟩ u).ownsRow B T k (.slice (some ⟨g,0,none⟩) n cap) n xs:=
 h.kept (row:=some tb) ⟨rfl,rfl,rfl,by simp,fun k G hne=>iw _ ⟨tb,3,none⟩ k _ (fun e=>hne (by rw[e]))⟩ (.inr (fun e=>D (by
  have e2:g=tb:=by simpa[Value.ownBlock]using e
  exact e2.symm)))
theorem Xz(R:Nat)(A:Option Addr)(c d:Nat)(l:List Tok)(tb O:Nat)(w0 w:World)(i:Nat)(T:jN)(hF:KR R A c d l 122 (.pointer (some ⟨R,0,none⟩)) (fun _=>True) T)
 (h0:R<w0.heap.size) (af4:w0.heap.size≤tb) (af5:w0.heap.size≤O) (Pw:tb<w.heap.size) (hrt:tb≠O) (hi:i≤l.length) (hR:iZ w R A l.length c i d) (hP:iI w0 R A c l) (hO:Only (fun q=>q=R) w0 w) (vF:vV R O w)
 (adI:w.heap[tb]?=some (.cells #[.int .i64 18,.int .i64 0,.string ⟨#[]⟩,.slice none 0 0] 64 (0,0))) :
 Calls Tryz.prog 210 #[.pointer (some ⟨tb,0,none⟩),.pointer (some ⟨O,0,none⟩)] w (Oi R A c d l i tb (Xe l T i) w0 w w.heap.size):=by
 obtain⟨i0,bo,bu,bv,ax⟩:=info_parts Cv;have hlen:=hP.len;obtain⟨ay,hw1⟩:=aj (w.alloc (.cells #[.int .i64 0,.int .i64 0,.string ⟨#[]⟩,.slice none 0 0] 64));have hb1:=dz hw1;have br:ay.heap.size=w.heap.size+1:=by rw[hw1];simp
 have bb:ay.heap[w.heap.size]?=some (.cells #[.int .i64 0,.int .i64 0,.string ⟨#[]⟩,.slice none 0 0] 64 (0,0)):=by rw[hw1];exact eu w _
 have bl:=hO.size;obtain⟨wE,aw⟩:=aj w;obtain⟨B,hB⟩:=aj w.heap.size;obtain⟨B0,a8⟩:=aj (w.heap.size+1);obtain⟨rs,aF⟩:=aj w.heap.size;have bk:=vF.2.1;have HN:Hid (IfN R tb O rs B0 w0):=⟨h0,af4,af5,by omega,by omega,by omega,by omega,hrt,by omega,by omega⟩
 have I:Hid (Cy R A c d l i tb O rs B0 w0 wE ay (.slice none 0 0) [] i):=by
  show Cy _ _ _ _ _ _ _ _ _ _ _ _ _ _ _ _;rw[aw];exact⟨World.ownsRow_nil _ _ _ _,fun _ h=>by simp at h,hR.below hb1 hR.lt,hO.trans (Ob hb1),vF.only (Ob (F:=fun q=>q=R) hb1),(hb1.block tb Pw).trans adI,by rw[aF];exact bb,lr _,hi,by omega,Ob hb1,by omega,by omega⟩
 have HT:=Hd (fun(W:World)(j:Nat)(hj:j≤l.length)(hr:iZ W R A l.length c j d)(ho:Only (fun q=>q=R) w0 W)=>hF j W hj hr (hP.only ho) trivial);have bf:=Hd (fun(W:World)(j:Nat)(s:Bs)(hj:j≤l.length)(hr:iZ W R A l.length c j d)(ho:Only (fun q=>q=R) w0 W)(h:ah l j 3 s=true)=>vZ R A c j d l 3 ⟨s.toArray⟩ W hr (hP.only ho) (by omega) h);have bd:=Hd (fun(W:World)(j:Nat)(s:Bs)(hj:j≤l.length)(hr:iZ W R A l.length c j d)(ho:Only (fun q=>q=R) w0 W)(h:ah l j 3 s=false)=>Gv R A c j d l 3 ⟨s.toArray⟩ W hr (hP.only ho) (by omega) h);obtain⟨F,vU⟩:=aj (Oi R A c d l i tb (Xe l T i) w0 w w.heap.size);rw[←vU];rw[←hB]at vU;have kI:Hid (F=Oi R A c d l i tb (chW l T [um,uo] [] i) w0 wE B):=by show _=_;rw[aw];exact vU
 have bh:=Hd hw1;have BI:=Hd aF;have bL:B≤B0:=by omega
 have Ot:=Hd hB;have bz:=Hd aw;clear aw;have bw:=Hd a8;clear hF hi hR hP hO vF adI hw1 hb1 br bb bl hB a8 aF bk vU h0 af4 af5 Pw hrt;go_in;go_wp2_with fail;rw[←bh,←BI]
 have aJ:∃(wn:World)(a:Option Addr)(J cp:Nat)(es:List jo)(j:Nat)(ws:List Bs),ay=wn∧Cy R A c d l i tb O rs B0 w0 wE wn (.slice a J cp) es j∧F=Oi R A c d l i tb (chW l T ws (es.map jo.t) j) w0 wE B∧es.length=J∧ws=[um,uo]∧ws.length+J=2∧i≤j:=
  ⟨_,_,_,_,_,_,_,rfl,I,kI,rfl,rfl,rfl,lr _⟩
 clear I kI;obtain⟨wn,a,J,cp,es,j,ws,hwn,hS,af,ae,hL,ao,aa⟩:=aJ;have Ww:=Hd ao;have aS:J≤2:=by omega
 rw[hwn];have I:=Hd hS;have bE:=Hd af;have FP:=Hd ae;have HL:=Hd hL;clear hS af ae hL ao
 iterate 3
  go_cut []from 3 (fun wc=>∃(e:jo)(g cap k:Nat),Cy R A c d l i tb O rs B0 w0 wE wc (.slice (some ⟨g,0,none⟩) (J+1) cap) (es++[e]) k∧Hid (F=Oi R A c d l i tb (nxW l (chW l T) ws ((es++[e]).map jo.t) k) w0 wE B)∧j<k)
  case first=>
   refine wp_region_held_drew (S:=fun w9=>vV R O w9) (by kernel_rfl) I.box (fun D=>?_);obtain⟨Wc,aE⟩:=aj wn.drew;rw[←aE]at D⊢;have Gq:Hid (Cy R A c d l i tb O rs B0 w0 wE Wc (.slice a J cp) es j):=by show Cy _ _ _ _ _ _ _ _ _ _ _ _ _ _ _ _;rw[aE];exact I.drew HN
   clear aE I;have Yz:(0:Int)≤(J:Int):=by omega
   have YA:(J:Int)<(J:Int)+1:=by omega
   rename Hid (Cy _ _ _ _ _ _ _ _ _ _ _ _ _ _ _ _)=>I
   repeat
    (first|refine aI 0 (v:=?_) rfl ?hy ?_|refine aI 2 (v:=?_) rfl ?hy ?_|refine aI 4 (v:=?_) rfl ?hy ?_|refine aI 7 (v:=?_) rfl ?hy ?_|refine aI 9 (v:=?_) rfl ?hy ?_
     case hy=>
      intro w0 hS;have e4:=hS.1;clear hS;go_simp
      (first|done|with_reducible rfl)
     try simp only[Act.put,aT,aU,aV])
   iterate 6
    all_goals first
     |refine Rd (rs:=[1,3,5]) (by decide +kernel) (by simp) (Rc (T9 rfl) (fun K hK=>?_) (Rc (T9 rfl) (fun K hK=>?_) (Rc (T9 rfl) (fun K hK=>?_) Rn)))
     |refine Rd (rs:=[3,5]) (by decide +kernel) (by simp) (Rc (T9 rfl) (fun K hK=>?_) (Rc (T9 rfl) (fun K hK=>?_) Rn))
     |refine Rd (rs:=[1,5]) (by decide +kernel) (by simp) (Rc (T9 rfl) (fun K hK=>?_) (Rc (T9 rfl) (fun K hK=>?_) Rn))
     |refine Rd (rs:=[1,3]) (by decide +kernel) (by simp) (Rc (T9 rfl) (fun K hK=>?_) (Rc (T9 rfl) (fun K hK=>?_) Rn))
     |refine Rd (rs:=[8,10]) (by decide +kernel) (by simp) (Rc (T9 rfl) (fun K hK=>?_) (Rc (T9 rfl) (fun K hK=>?_) Rn))
     |refine Rd (rs:=[5]) (by decide +kernel) (by simp) (Rc (T9 rfl) (fun K hK=>?_) Rn)
     |refine Rd (rs:=[3]) (by decide +kernel) (by simp) (Rc (T9 rfl) (fun K hK=>?_) Rn)
     |refine Rd (rs:=[1]) (by decide +kernel) (by simp) (Rc (T9 rfl) (fun K hK=>?_) Rn)
     |refine Rd (rs:=[6]) (by decide +kernel) (by simp) (Rc (T9 rfl) (fun K hK=>?_) Rn)
     |refine Rd (rs:=[10]) (by decide +kernel) (by simp) (Rc (T9 rfl) (fun K hK=>?_) Rn)
     |refine Rd (rs:=[8]) (by decide +kernel) (by simp) (Rc (T9 rfl) (fun K hK=>?_) Rn)
     |fail
    all_goals first
     |(refine Tj ?_
       have y3:=(kr I.tbx).2.2.2.1;go_simp;clear y3;refine hK.out _ _ (D) (fun D=>?_);clear hK K
       try simp only[Act.put,aT,aU,aV])
     |(refine WE ?_
       go_simp;(with_reducible refine(HT.out _ _ I.out.jl I.out.bN I.out.only).mono ?_);intro e Wc hq;obtain⟨r2,av⟩:=aj (T j);rw[←av]at hq
       rcases r2 with⟨jb,xb⟩|⟨t2,jn⟩
       ·obtain⟨rfl,iX⟩:=hq;refine(show _∧_ from⟨rfl,?_⟩);rw[bE,aoT,←av];exact⟨rfl,I.only.trans iX⟩
       obtain⟨⟨A2,c2,rfl,ba⟩,aa,vE,uI,iX⟩:=hq;obtain⟨n3,AV⟩:=ak t2.kids.length;unfold Tm.val;rw[←AV];have bg:=Hd av;have bC:=iX.size;have bm:=I.big;have jm:Hid (aD (fun q=>B0≤q∧(Value.ownBlock (.slice a J cp))≠some q) Wc A2 c2 t2):=ba.keep Kr (fun q _ h=>⟨by omega,fun e=>by have:=(I.own.lt q e).2;omega⟩);have ab:=I.Et HN iX uI (by omega) vE
       first
        |(have ax:=(iX.block z (by omega) Ul).trans HZ
          clear HZ;have HZ:=Hd ax
          clear ax)
        |skip
       clear I ba uI iX av vE;have I:=Hd ab;clear ab;refine hK.out _ _ (I.box) (fun D=>?_);clear hK K
       try simp only[Act.put,aT,aU,aV])
     |(refine QI ?_
       go_simp;refine hK.out _ _ ((I.alloc HN _).box) (fun D=>?_);clear hK K;(try simp only[Act.put,aT,aU,aV]);obtain⟨z,hz⟩:=aj Wc.heap.size;have Ul:z≠R:=by have:=I.bN.lt;omega
       have ab:=I.alloc HN ((.cells #[.int .i64 0,.int .i64 0,.string ⟨#[]⟩,.slice none 0 0] 64):Obj);obtain⟨Wc,hV⟩:=aj (Wc.alloc (.cells #[.int .i64 0,.int .i64 0,.string ⟨#[]⟩,.slice none 0 0] 64));rw[←hV,←hz];rw[←hV]at D ab;have HZ:=jZ hV hz;have b2:z<Wc.heap.size:=lH HZ
       first
        |(have aQ:=jm.Xf ((.cells #[.int .i64 0,.int .i64 0,.string ⟨#[]⟩,.slice none 0 0] 64):Obj)
          rw[←hV]at aQ;clear jm;have jm:=Hd aQ
          clear aQ)
        |skip
       clear hV hz I;have I:=Hd ab
       clear ab)
     |(refine Gw ?_
       obtain⟨y3,x3⟩:=(kr G6).2.2.2;go_simp;clear y3 x3;refine hK.out _ _ (D.block (iw _ ⟨tb,3,none⟩ O _ (fun e=>HN.ne1 e.symm)) (by simp)) (fun D=>?_);clear hK K;(try simp only[Act.put,aT,aU,aV]);obtain⟨G7,-⟩:∃n:Nat,n=n:=⟨0,rfl⟩
       first
        |have:=D8
        |(obtain⟨WT,Um⟩:=aj (W7.setCell ⟨tb,3,none⟩ (.slice (some ⟨g,0,none⟩) (J+1) cap))
          rw[←Um];rw[←Um]at D;have Cz:=Mv (tb:=tb) (u:=.slice (some ⟨g,0,none⟩) (J+1) cap) aP JX;rw[←Um]at Cz;clear fM;have fM:=Hd Cz;have bi:=Hd Um
          clear Um Cz))
     |(refine Gw ?_
       obtain⟨y0,y1,y2,y3,yz⟩:=qP fM (o:=J*4) (by rw[tu,FP]);have bn:=(fM.lt g rfl).2;go_simp;clear y0 y1 y2 y3 yz bn;refine hK.out _ _ (D.block (fH bp) (by simp)) (fun D=>?_);clear hK K;(try simp only[Act.put,aT,aU,aV]);obtain⟨D8,-⟩:∃n:Nat,n=n:=⟨0,rfl⟩
       first
        |have:=G7
        |(obtain⟨WS,ai⟩:=aj ((((W7.setCell ⟨g,J*4,none⟩ (.int .i64 t2.op)).setCell ⟨g,J*4+1,none⟩ (.int .i64 t2.num)).setCell ⟨g,J*4+2,none⟩ (.string t2.name)).setCell ⟨g,J*4+3,none⟩ (.slice A2 n3 c2))
          rw[←ai];rw[←ai]at D;have MN:=(fH (W:=W7) (o0:=J*4) (o1:=J*4+1) (o2:=J*4+2) (o3:=J*4+3) (v0:=.int .i64 t2.op) (v1:=.int .i64 t2.num) (v2:=.string t2.name) (v3:=.slice A2 n3 c2) aP).trans G6;rw[←ai]at MN;clear G6;have G6:=Hd MN;have kY:=Hd ai
          clear ai MN))
     |(refine step_append_lies _ (by rfl) _ _ _ (by rfl) B0 64 i0 (.agg #[.int .i64 0,.int .i64 0,.string ⟨#[]⟩,.slice none 0 0]) 4 56 Tryz.underlying25 bo bu bv ax rfl (by decide) (.slice a J cp) J (bY es) (by rfl) (by have h:=I.own;rw[FP]at h;exact h) ⟨z,0,none⟩ 1 1 [.int .i64 0,.int .i64 0,.string ⟨#[]⟩,.slice none 0 0] (by rfl) (by rfl) (World.news_of_block HZ) (by simp[Value.oneCell']) (by decide) (by unfold maxLen;omega) (by omega) I.big _ rfl ?_
       intro g cap W7 dN dO ku yV;have hold:∀q,q<B0→W7.heap[q]?=Wc.heap[q]?:=fun q hq=>dO.block q (by have:=I.big;omega) (fun e=>by have:=(I.own.lt q e.symm).1;omega);refine hK.out _ _ (D.block (hold O HN.rbB) dO.size) (fun D=>?_);clear hK K;(try simp only[Act.put,aT,aU,aV]);have bP:B0≤g:=(dN.lt g rfl).1;have aP:tb≠g:=by have:=HN.tbB;omega
       have bp:O≠g:=by have:=HN.rbB;omega
       have G6:=Hd ((hold tb HN.tbB).trans I.tbx);have JX:=Hd dN;have fM:=Hd dN;have ML:=Hd dO;have bj:=Hd ku
       clear hold dN dO ku)
     |fail
    all_goals
     repeat
      (first|refine aI 0 (v:=?_) rfl ?hy ?_|refine aI 2 (v:=?_) rfl ?hy ?_|refine aI 4 (v:=?_) rfl ?hy ?_|refine aI 7 (v:=?_) rfl ?hy ?_|refine aI 9 (v:=?_) rfl ?hy ?_
       case hy=>
        intro w0 hS;have e4:=hS.1;clear hS;go_simp
        (first|done|with_reducible rfl)
       try simp only[Act.put,aT,aU,aV])
   all_goals refine wpAnyH_done (by decide +kernel) ?_ _
   all_goals
    have dJ:Hid (F=Oi R A c d l i tb (nxW l (chW l T) ws ((es++[(⟨t2,A2,c2⟩:jo)]).map jo.t) jn) w0 wE B):=by show _=_;rw[bE,aoT,←bg,List.map_append];rfl
    have ag:=I.put (g:=g) (cap:=cap) (o:=J*4) HN jm (by rw[FP];exact JX) ML bj (by rw[FP]);rw[FP]at ag
    first
     |(rw[bi,Rx aP]
       rw[←AV]at ag)
     |rw[←AV,←kY]at ag
    have Oc:=Hd ag;clear ag;go_wp2_with fail
    go_meet
    case rel=>exact⟨⟨t2,A2,c2⟩,g,cap,jn,Oc,dJ,aa⟩
  obtain⟨e,g,cap,k,Oj,Un,bZ⟩:=hcut;obtain⟨a7,ar⟩:=aj (es++[e]);obtain⟨m,Rw⟩:=ak (J+1);rw[←ar,←Rw]at Oj;rw[←ar]at Un;have a6:Hid (a7.length=m):=by show _=_;rw[ar,Rw,List.length_append,FP];rfl
  clear I bE FP ar;have I:=Hd Oj;have bE:=Un;have FP:=a6;clear Oj Un a6;have bW:i<k:=by omega
  have az:=Ww.out;rw[HL]at bE az
  try
   have b0:=I.box.1;have bJ:=I.jl
   rcases aoU (G:=fun r=>Oi R A c d l i tb r w0 wE B) bE with⟨Y,VU⟩|⟨Y,VU⟩
   case' inr=>
    have HM:=Hd (bd wc k _ I.jl I.bN I.only Y);have Rb:Hid (F=Oi R A c d l i tb (.bad k 16) w0 wE B):=VU;clear Y VU bE;go_wp2_with fail;refine HM.mono ?_;rintro e w9 ⟨rfl,m9,mE⟩;refine(show _∧_ from⟨rfl,?_⟩);rw[Rb,mE];exact⟨rfl,I.only.drewN m9⟩
   have HM:=Hd (bf wc k _ I.jl I.bN I.only Y);have b1:=dL Y;have Rb:=Hd VU;clear Y VU bE;go_wp2_with fail;refine HM.mono ?_;rintro e wn ⟨rfl,fB⟩
   have aJ:∃(a:Option Addr)(J cp:Nat)(es:List jo)(j:Nat)(ws:List Bs),Cy R A c d l i tb O rs B0 w0 wE wn (.slice a J cp) es j∧F=Oi R A c d l i tb (chW l T ws (es.map jo.t) j) w0 wE B∧es.length=J∧ws=_∧ws.length+J=2∧i<j:=
    ⟨_,_,_,_,_,_,I.Et HN fB.2.1 fB.1 (by omega) (by omega),Rb,FP,rfl,by have:=Rw.out;simp only[List.length_cons,List.length_nil]at az⊢;omega,by omega⟩
   clear I Rb HM FP fB b0 HL Ww az aS Rw;obtain⟨a,J,cp,es,j,ws,hS,af,ae,hL,ao,aa⟩:=aJ;have Ww:=Hd ao;have aS:J≤2:=by omega
   have I:=Hd hS;have bE:=Hd af;have FP:=Hd ae;have HL:=Hd hL;clear hS af ae hL ao;go_wp2_with fail
 obtain⟨⟨y0,x0⟩,⟨y1,x1⟩,⟨y2,x2⟩,y3,x3⟩:=kr I.tbx;obtain⟨⟨v0,z0⟩,⟨v1,z1⟩,⟨v2,z2⟩,v3,z3⟩:=kr I.res;clear x0 x1 x2 x3;go_wp2_with fail;refine bR (Gg (ni I.res)) rfl ?_;clear y0 y1 y2 y3 v0 v1 v2 v3 z0 z1 z2 z3;rw[bE];show Oi _ _ _ _ _ _ _ (.ok (dD 18 (a7.map jo.t)) k) _ _ _ _ _;exact I.fin FP HN (by omega) (by omega)
theorem Only.ahB{R tb:Nat}{w W:World}{b o:Nat}(h:Only (fun q=>q=R∨q=tb) w W)(hb:b=R)(v:Value):Only (fun q=>q=R∨q=tb) w (W.setCell ⟨b,o,none⟩ v):=h.bq (.inl hb) v
theorem Rf(R:Nat)(A:Option Addr)(c d:Nat)(l:List Tok)(tb rb:Nat)(w0 w:World)(i:Nat)(T:jN)(hF:d<256→KR R A c (d+1) l 122 (.pointer (some ⟨R,0,none⟩)) (fun _=>True) T)
 (h0:R<w0.heap.size) (af4:w0.heap.size≤tb) (af5:w0.heap.size≤rb) (Pw:tb<w.heap.size) (hrt:tb≠rb) (hd:d≤256) (hi:i<l.length) (hR:iZ w R A l.length c i d) (hP:iI w0 R A c l) (hO:Only (fun q=>q=R) w0 w) (vF:vV R rb w)
 (adI:w.heap[tb]?=some (.cells #[.int .i64 18,.int .i64 0,.string ⟨#[]⟩,.slice none 0 0] 64 (0,0))) :
 Calls Tryz.prog 174 #[.pointer (some ⟨R,0,none⟩),.func (.func 210) #[] #[.pointer (some ⟨tb,0,none⟩),.pointer (some ⟨rb,0,none⟩)]] w (Oi R A c d l i tb (if d=256 then .bad i 17 else Xe l T (i+1)) w0 w w.heap.size):=by
 have hlen:=hP.len;obtain⟨w1,hw1⟩:=aj (w.alloc (.cells #[.int .i64 0,.int .i64 0,.string ⟨#[]⟩,.slice none 0 0] 64));have hb1:=dz hw1;have bb:w1.heap.size=w.heap.size+1:=by rw[hw1];simp
 have sQ:=hR.below hb1 hR.lt;have fC:=hR.lt;have d1:=hR.c1;have d2:=hR.c2;have c0:=sQ.c0;have c1:=sQ.c1;have c2:=sQ.c2;have f1:=sQ.frozen 1;have f2:=sQ.frozen 2;have e1:=hR.frozen 1;have e2:=hR.frozen 2;obtain⟨F,HF⟩:=ak (Oi R A c d l i tb (if d=256 then .bad i 17 else Xe l T (i+1)) w0 w w.heap.size);rw[←HF];have aw:=Hd hw1;have ag:=Hd hb1;have ao:=Hd sQ;have av:=Hd hR;have Am:=Hd hF;have aa:=Hd hO;have ay:=Hd vF;have VN:=Hd adI;have a8:=h0;have HP:=Hd hP;clear hw1 hb1 hR sQ hF hP hO vF adI
 by_cases gq:d=256
 ·have bE:Hid (F=Oi R A c d l i tb (.bad i 17) w0 w w.heap.size):=by show _=_;rw[HF,iP gq]
  have aQ:(256:Int)≤(d:Int):=by omega
  have vN:=Hd (zF R A l.length c i d 17 w1 ao);clear gq;go_in;go_wp2_with fail;rw[←aw];go_wp2_with fail;refine vN.mono ?_;rintro e w' ⟨rfl,hw'⟩;rw[←hw'];refine(show _∧_ from⟨rfl,?_⟩);rw[bE];exact⟨rfl,aa.trans (Ob ag)⟩
 ·have bE:Hid (F=Oi R A c d l i tb (Xe l T (i+1)) w0 w w.heap.size):=by show _=_;rw[HF,iN gq]
  have aQ:¬(256:Int)≤(d:Int):=by omega
  have aS:d<256:=by omega
  obtain⟨w3,G⟩:=aj (((w.setCell ⟨R,1,none⟩ (.int .i64 ((i:Int)+1))).setCell ⟨R,2,none⟩ (.int .i64 ((d:Int)+1))).alloc (.cells #[.int .i64 0,.int .i64 0,.string ⟨#[]⟩,.slice none 0 0] 64))
  have I:Only (fun q=>q=R) w w3:=by
   rw[G];exact(((Only.refl (F:=fun q=>q=R)).bq rfl _).bq rfl _).jV ((Br _ _).alloc (lr _) _) (by simp)
  have VU:iZ w3 R A l.length c (i+1) (d+1):=by
   have h:=((av.at_ (i+1)).deep (d+1));rw[G];refine iZ.below (B:=w.heap.size) (w:=(w.setCell ⟨R,1,none⟩ (.int .i64 ((i:Int)+1))).setCell ⟨R,2,none⟩ (.int .i64 ((d:Int)+1))) ?_ ((Br _ _).alloc (by simp) _) fC;rw[show((i+1:Nat):Int)=(i:Int)+1 from by omega,show((d+1:Nat):Int)=(d:Int)+1 from by omega]at h;exact h
  have D:=Xz R A c (d+1) l tb rb w0 w3 (i+1) T (Am aS) h0 af4 af5 (by rw[G];simp;omega) hrt (by omega) VU HP (aa.trans I) (ay.only I) ((I.block tb Pw (by omega)).trans VN);obtain⟨r,hr⟩:=aj (Xe l T (i+1));rw[←hr]at D bE
  have af:w3.heap[w.heap.size]?=some (.cells #[.int .i64 0,.int .i64 0,.string ⟨#[]⟩,.slice none 0 0] 64 (0,0)):=by
   rw[G];have h:=eu ((w.setCell ⟨R,1,none⟩ (.int .i64 ((i:Int)+1))).setCell ⟨R,2,none⟩ (.int .i64 ((d:Int)+1))) (.cells #[.int .i64 0,.int .i64 0,.string ⟨#[]⟩,.slice none 0 0] 64)
   simpa using h
  have bd:w3.heap.size=w.heap.size+1:=by rw[G];simp
  have HC:=Hd D;have Ai:=Hd I;have ai:=Hd af;have ax:=Hd G;clear D hr I VU af G gq
  iterate 1
   go_in;go_wp2_with fail;rw[←ax];refine HC.mono ?_;intro e w4 hq
   cases r with
   |bad j x=>
    obtain⟨rfl,iC⟩:=hq;refine(show _∧_ from⟨rfl,?_⟩);rw[bE];exact⟨rfl,iC⟩
   |ok t j=>
    obtain⟨⟨A',c',rfl,XE,hV⟩,ba,a6,vD,ab,iC⟩:=hq;have HV:=Hd hV;have ar:=Hd vD;have az:=Hd ab;have ae:=Hd XE;have uX:Hid (Only (fun q=>q=R∨q=tb) w w4):=(Ai.mono fun q h=>.inl h).trans iC;have J:w.heap.size≠tb:=by omega
    have Og:w.heap.size≠R:=by omega
    have BS:=Hd ((iC.block w.heap.size (by omega) (fun h=>h.elim Og J)).trans ai);have bf:=iC.size;have g2:=vD.c2;have k2:=vD.frozen 2;have a7:=vD.lt;have rc:w4.heap.size>w.heap.size:=by omega
    obtain⟨n2,kU⟩:=ak t.kids.length;unfold Tm.val;rw[←kU];obtain⟨v0,v1,v2,v3,zq⟩:=q4 BS;clear hV vD iC ab XE;go_wp2_with fail;obtain⟨W5,O⟩:=aj (w4.setCell ⟨R,2,none⟩ (.int .i64 (d:Nat)))
    have aJ:W5.heap[w.heap.size]?=some (.cells #[.int .i64 0,.int .i64 0,.string ⟨#[]⟩,.slice none 0 0] 64 (0,0)):=by
     rw[O];exact(iw w4 ⟨R,2,none⟩ w.heap.size _ Og).trans BS
    have bg:W5.heap.size=w4.heap.size:=by rw[O];simp
    have aP:iZ W5 R A l.length c j d:=by rw[O];exact ar.deep d
    have Ug:Only (fun q=>q=R∨q=tb) w W5:=by rw[O];exact uX.ahB rfl _
    have aE:Only (fun q=>q=R) w0 W5:=by rw[O];exact az.bq rfl _
    have aF:W5.heap[tb]?=w4.heap[tb]?:=by rw[O];exact iw w4 ⟨R,2,none⟩ tb _ (show tb≠R by omega)
    have Uh:aD (fun q=>w3.heap.size≤q) W5 A' c' t:=by
     rw[O];exact HV.keep (aR.refl.set (by omega) _) (fun _ _ h=>h)
    rw[←O];clear O;have hres:=aK (o:=.cells #[.int .i64 t.op,.int .i64 t.num,.string t.name,.slice A' n2 c'] 64) (ni (v0:=.int .i64 t.op) (v1:=.int .i64 t.num) (v2:=.string t.name) (v3:=.slice A' n2 c') aJ);refine bR (Gg hres) rfl ?_;rw[bE];have Y:=aa.size;refine⟨⟨A',c',by unfold Tm.val;rw[←kU],?_,?_⟩,by omega,a6,?_,?_,?_⟩
    ·refine(((Br _ _).alloc (lr _) _).block tb (by have h8:=lH ae;simp only[World.size_setCell];omega)).trans ?_;rw[iw _ ⟨w.heap.size,3,none⟩ tb _ J.symm,iw _ ⟨w.heap.size,2,none⟩ tb _ J.symm,iw _ ⟨w.heap.size,1,none⟩ tb _ J.symm,iw _ ⟨w.heap.size,0,none⟩ tb _ J.symm];exact aF.trans ae
    ·exact Uh.keep (((((aR.refl.set (by omega) _).set (by omega) _).set (by omega) _).set (by omega) _).alloc _) (fun q _ h=>by omega)
    ·have QY:R≠w.heap.size:=fun h=>Og h.symm;refine iZ.below (B:=W5.heap.size) ?_ ((Br _ _).alloc (by simp) _) (by omega);unfold iZ;rw[iw _ ⟨w.heap.size,3,none⟩ R _ QY,iw _ ⟨w.heap.size,2,none⟩ R _ QY,iw _ ⟨w.heap.size,1,none⟩ R _ QY,iw _ ⟨w.heap.size,0,none⟩ R _ QY];exact aP
    ·exact(dU (dU (dU (dU aE Y _) Y _) Y _) Y _).trans (Ob ((Br _ _).alloc (lr _) _))
    ·exact(dU (dU (dU (dU Ug (lr _) _) (lr _) _) (lr _) _) (lr _) _).trans (Ob ((Br _ _).alloc (lr _) _))
end Go.Proofs.YtkhoeoilamddaaaGreatDoor
