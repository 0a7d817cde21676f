/- Walks and plain words: PrsJ PrsK0. -/
import Derived.Test.YtkhoeoilamddaaaGreatDoorYPrsF
import Derived.Deep.Cut
namespace Go.Proofs.YtkhoeoilamddaaaGreatDoor
open Go.RowKit
set_option linter.unusedVariables false
set_option linter.unusedSimpArgs false
set_option maxRecDepth 100000
set_option maxHeartbeats 8000000
theorem af3{R c d i j:Nat}{A A':Option Addr}{c':Nat}{l:List Tok}{w w6:World}{t:Tm}(op:Int)(hij:i<j)(hjl:j≤l.length)(Og:R<w.heap.size)(hR:iZ w6 R A l.length c j d)(hO:Only (fun q=>q=R) w w6)(hs:w.heap.size<w6.heap.size)(hV:aD (fun q=>w.heap.size<q) w6 A' c' t) :
 PQ R A c d l i (.ok (dD op [t]) j) w (.returned (.agg #[.int .i64 op,.int .i64 0,.string ⟨#[]⟩,.slice (some ⟨w6.heap.size,0,none⟩) 1 1])) (((((w6.setCell ⟨w.heap.size,0,none⟩ (.int .i64 op)).setCell ⟨w.heap.size,1,none⟩ (.int .i64 0)).setCell ⟨w.heap.size,2,none⟩ (.string ⟨#[]⟩)).setCell ⟨w.heap.size,3,none⟩ (.slice (some ⟨w6.heap.size,0,none⟩) 1 1)).alloc (.cells #[.int .i64 t.op,.int .i64 t.num,.string t.name,.slice A' t.kids.length c'] 64)):=by
 obtain⟨WQ,Jc⟩:=aj ((((w6.setCell ⟨w.heap.size,0,none⟩ (.int .i64 op)).setCell ⟨w.heap.size,1,none⟩ (.int .i64 0)).setCell ⟨w.heap.size,2,none⟩ (.string ⟨#[]⟩)).setCell ⟨w.heap.size,3,none⟩ (.slice (some ⟨w6.heap.size,0,none⟩) 1 1));rw[←Jc];have hne:R≠w.heap.size:=by omega
 have N_:WQ.heap.size=w6.heap.size:=by rw[Jc];simp
 have hRQ:iZ WQ R A l.length c j d:=by
  rw[Jc];unfold iZ;rw[iw _ ⟨w.heap.size,3,none⟩ R _ hne,iw _ ⟨w.heap.size,2,none⟩ R _ hne,iw _ ⟨w.heap.size,1,none⟩ R _ hne,iw _ ⟨w.heap.size,0,none⟩ R _ hne];exact hR
 have hkQ:aR (fun q=>w.heap.size<q) w6 WQ:=by
  rw[Jc];exact(((aR.refl.set (by omega) _).set (by omega) _).set (by omega) _).set (by omega) _
 have hOQ:Only (fun q=>q=R) w WQ:=by rw[Jc];exact Ja hO
 obtain⟨W7,OJ⟩:=aj (WQ.alloc (.cells #[.int .i64 t.op,.int .i64 t.num,.string t.name,.slice A' t.kids.length c'] 64));rw[←OJ];have iY:=dz OJ;have hs7:W7.heap.size=w6.heap.size+1:=by rw[OJ];simp[N_]
 have GY:W7.heap[w6.heap.size]?=some (.cells (bY [⟨t,A',c'⟩]).toArray 64 (0,0)):=by rw[OJ,←N_];exact eu WQ _
 have nS:aR (fun q=>w.heap.size<q) w6 W7:=hkQ.trans (Kb iY);refine⟨⟨some ⟨w6.heap.size,0,none⟩,1,rfl,lr _,by unfold maxLen;omega,zl _,.inr ⟨w6.heap.size,0,rfl,Nat.le_of_lt hs,by omega,?_⟩⟩,hij,hjl,hRQ.below iY (by omega),hOQ.trans (Ob iY)⟩
 refine jP [⟨t,A',c'⟩] 0 (fun k v hv=>by
  rw[Nat.zero_add,cR _ _ k _ _ (0,0) GY]
  simpa using hv) ?_
 intro e he;rw[List.mem_singleton.1 he];exact hV.keep nS (fun q _ h=>Nat.le_of_lt h)
theorem dL{l:List Tok}{i:Nat}{k:Int}{s:Bs}(h:ah l i k s=true):i<l.length:=by
 rcases Nat.lt_or_ge i l.length with h1|h1
 ·exact h1
 ·exfalso
  have hn:l[i]?=none:=List.getElem?_eq_none h1;unfold ah at h;rw[hn]at h;cases h
theorem adE(R:Nat)(A:Option Addr)(c d:Nat)(l:List Tok)(P PN:jN)(hd:d≤256)(hF:KR R A c d l 192 (.pointer (some ⟨R,0,none⟩)) (fun _=>True) P)(hI:d<256→KR R A c (d+1) l 173 (.pointer (some ⟨R,0,none⟩)) (fun _=>True) PN) :
 KR R A c d l 173 (.pointer (some ⟨R,0,none⟩)) (fun _=>True) (Kk l (if d=256 then none else some PN) P):=by
 intro i w hi hR hP hw;have hlen:=hP.len;have fC:=hR.lt;obtain⟨wa,hwa⟩:=aj (w.alloc (.cells #[.int .i64 0,.int .i64 0,.string ⟨#[]⟩,.slice none 0 0] 64));have hba:=dz hwa;have hsa:wa.heap.size=w.heap.size+1:=by rw[hwa];simp
 have ajb:wa.heap[w.heap.size]?=some (.cells #[.int .i64 0,.int .i64 0,.string ⟨#[]⟩,.slice none 0 0] 64 (0,0)):=by rw[hwa];exact eu w _
 have hoa:Only (fun q=>q=R) w wa:=Ob hba;have his:Calls Tryz.prog 175 #[.pointer (some ⟨R,0,none⟩),.int .i64 4,.string ⟨#[33]⟩] wa fun e w'=>e=.returned (.bool (ah l i 4 [33]))∧∃n,w'=wa.drewN n:=DI R A c i d l 4 ⟨#[33]⟩ wa (hR.below hba fC) (hP.only hoa) (by omega);obtain⟨F,vU⟩:=aj (PQ R A c d l i (Kk l (if d=256 then none else some PN) P i) w)
 have kI:Hid (F=PQ R A c d l i (if ah l i 4 [33]then(if d=256 then .bad i 17 else PN (i+1)).then fun t j=>.ok (dD 5 [t]) j else(P i).then fun t j=>if au l j [10,11,12,13]=0 then .ok t j else(P (j+1)).then fun u k=>.ok (dD (au l j [10,11,12,13]) [t,u]) k) w):=by
  show _=_;rw[vU]
  by_cases h:d=256
  ·simp only[h,if_true];rfl
  ·simp only[h,if_false];rfl
 rw[←vU];have HIN:=Hd (fun(W:World)(j:Nat)(hj:j<l.length)(hRW:iZ W R A l.length c j d)(qx:iI W R A c l)=>Cu R A c d l 173 (.pointer (some ⟨R,0,none⟩)) true (fun _=>True) PN j W (fun _ _=>by kernel_rfl) (fun _ _ _ _=>trivial) hI hd hj hRW qx trivial);have HIS:=Hd his;have HWA:=Hd hwa;have HOA:=Hd hoa;have akj:=Hd ajb;have Am:=Hd hF;have HP:=Hd hP;have SI:=Hd (hR.below hba fC);clear his vU hwa hba hoa ajb hF hP hw hR hI;go_in;go_wp2_with fail;rw[←HWA];refine HIS.mono ?_;rintro e w1 ⟨rfl,n1,hw1⟩;have wH:Hid (Only (fun q=>q=R) w w1):=by show Only _ _ _;rw[hw1];exact HOA.drewN n1
 have qH:Hid (w1.heap[w.heap.size]?=some (.cells #[.int .i64 0,.int .i64 0,.string ⟨#[]⟩,.slice none 0 0] 64 (0,0))):=by show _=_;rw[hw1];exact akj
 have hs1:w1.heap.size=w.heap.size+1:=by rw[hw1];exact hsa
 have HR1:Hid (iZ w1 R A l.length c i d):=by show iZ _ _ _ _ _ _ _;rw[hw1];exact SI.drewN n1
 have hP1:=HP.only wH;clear hw1
 by_cases Mt:ah l i 4 [33]=true
 ·have bE:Hid (F=PQ R A c d l i ((if d=256 then .bad i 17 else PN (i+1)).then fun t j=>.ok (dD 5 [t]) j) w):=by show _=_;rw[kI,iP Mt]
  have hcall:Calls Tryz.prog 174 #[.pointer (some ⟨R,0,none⟩),.func (.func 173) #[.pointer (some ⟨R,0,none⟩)] #[]] w1 (PQ R A c d l i (if d=256 then .bad i 17 else PN (i+1)) w1):=HIN w1 i (dL Mt) HR1 hP1;rw[Mt];obtain⟨r2,hr2⟩:=aj ((if d=256 then .bad i 17 else PN (i+1)));have dJ:Hid (F=PQ R A c d l i (r2.then fun t j=>.ok (dD 5 [t]) j) w):=by show _=_;rw[bE,hr2]
  rw[←hr2]at hcall;have Cx:=Hd hcall;clear hcall hr2 Mt hP1;go_wp2_with fail;refine Cx.mono ?_;intro e w6 hq
  cases r2 with
  |bad j x=>
   obtain⟨rfl,iC⟩:=hq;refine(show _∧_ from⟨rfl,?_⟩);rw[dJ];exact⟨rfl,wH.trans iC⟩
  |ok t j=>
   obtain⟨⟨A',c',rfl,hV⟩,hij,hjl,uI,iX⟩:=hq;have hs6:=iX.size;obtain⟨n2,hn2⟩:=aj t.kids.length;unfold Tm.val;rw[←hn2];have Pq:=Hd ((iX.block w.heap.size (by omega) (by omega)).trans qH);obtain⟨v0,v1,v2,v3,zq⟩:=q4 Pq;have abN:w.heap.size<w6.heap.size:=by omega
   have kU:=Hd hn2;have o7:=Hd uI;have Fy:=Hd iX;have HV:=Hd hV;clear hn2 uI iX hV;go_wp2_with fail;refine bR (Gg (aK (ni Pq))) rfl ?_;rw[dJ,kU];exact af3 5 hij hjl fC o7 (wH.trans Fy) abN (HV.keep Kr (fun q _ h=>by omega))
 ·have hc1:Calls Tryz.prog 192 #[.pointer (some ⟨R,0,none⟩)] w1 (PQ R A c d l i (P i) w1):=Am i w1 hi HR1 hP1 trivial;obtain⟨r1,hr1⟩:=aj (P i);have bE:Hid (F=PQ R A c d l i (r1.then fun t j=>if au l j [10,11,12,13]=0 then .ok t j else(P (j+1)).then fun u k=>.ok (dD (au l j [10,11,12,13]) [t,u]) k) w):=by show _=_;rw[kI,iN Mt,hr1]
  rw[←hr1]at hc1;have hbf:ah l i 4 [33]=false:=by simpa using Mt
  rw[hbf];have HC1:=Hd hc1;clear hc1 hr1 Mt hP1 hbf HR1;go_wp2_with fail;refine HC1.mono ?_;intro e w4 hq
  cases r1 with
  |bad j x=>
   obtain⟨rfl,iC⟩:=hq;refine(show _∧_ from⟨rfl,?_⟩);rw[bE];exact⟨rfl,wH.trans iC⟩
  |ok t j=>
   obtain⟨⟨A',c',rfl,hV⟩,hij,hjl,vD,iC⟩:=hq;have hs4:=iC.size;obtain⟨n2,hn2⟩:=aj t.kids.length;unfold Tm.val;rw[←hn2];obtain⟨bt,hbt⟩:=aj w4.heap.size;obtain⟨wt,hwt⟩:=aj (w4.alloc (.cells #[.int .i64 t.op,.int .i64 t.num,.string t.name,.slice A' n2 c'] 64));have xX:=dz hwt;have hst:wt.heap.size=bt+1:=by rw[hwt,hbt];simp
   have vF:wt.heap[bt]?=some (.cells #[.int .i64 t.op,.int .i64 t.num,.string t.name,.slice A' n2 c'] 64 (0,0)):=by rw[hwt,hbt];exact eu w4 _
   obtain⟨wo,hwo⟩:=aj (wt.alloc (.cells #[.int .i64 10,.int .i64 11,.int .i64 12,.int .i64 13] 3));have Uj:=dz hwo;have hso:wo.heap.size=bt+2:=by rw[hwo];simp[hst]
   have hOO:Only (fun q=>q=R) w1 wo:=iC.trans ((Ob xX).trans (Ob Uj));have hRO:iZ wo R A l.length c j d:=(vD.below xX (by omega)).below Uj (by omega);have JV:=(Uj.block bt (by omega)).trans vF
   have hsg:Calls Tryz.prog 146 #[.pointer (some ⟨R,0,none⟩),.slice (some ⟨wt.heap.size,0,none⟩) 4 4] wo fun e w'=>e=.returned (.int .i64 (au l j [10,11,12,13]))∧∃n,w'=wo.drewN n:=
    zR R A c j d l wt.heap.size 4 [10,11,12,13] wo hRO (HP.only (wH.trans hOO)) (by omega) (by rw[hwo];exact tY wt [10,11,12,13]) (by simp) (by omega)
   rw[hst]at hsg;have HK:Hid (aR (fun q=>w1.heap.size≤q) w4 wo):=(Kb xX).trans (Kb Uj);have qj:=Hd hsg;have HWT:=Hd hwt;have HWO:=Hd hwo;have oW:=Hd hbt;have kU:=Hd hn2;clear hn2 hwt hwo xX Uj vF hsg;go_wp2_with fail;rw[←oW,←HWT,←HWO];refine qj.mono ?_;rintro e w5 ⟨rfl,q,gH⟩;have Ug:Only (fun q=>q=R) w1 w5:=by rw[gH];exact hOO.drewN q
   have hR5:iZ w5 R A l.length c j d:=by rw[gH];exact hRO.drewN q
   have hb5:w5.heap[bt]?=some (.cells #[.int .i64 t.op,.int .i64 t.num,.string t.name,.slice A' n2 c'] 64 (0,0)):=by rw[gH];exact JV
   have hs5:w5.heap.size=bt+2:=by rw[gH];exact hso
   have ai_:w1.heap.size≤bt:=by rw[hbt];exact hs4
   have hbr:bt≠R:=by omega
   have hx5:=(Ug.block w.heap.size (by omega) (by omega)).trans qH;have hk5:aR (fun q=>w1.heap.size≤q) w4 w5:=by rw[gH];exact⟨by show w4.heap.size≤wo.heap.size;omega,fun q hq hl=>HK.block q hq hl⟩
   have Uh:aD (fun q=>w.heap.size<q) w5 A' c' t:=hV.keep hk5 (fun q _ h=>by omega);clear hk5 hbt gH hso hOO hRO JV vD;have OL:=Hd hR5;have HO5:=Hd Ug;have HV5:=Hd Uh;have HX5:=Hd hx5;have pU:=Hd hb5;obtain⟨v0,v1,v2,v3,zq⟩:=q4 hx5;obtain⟨y0,y1,y2,y3,xq⟩:=q4 hb5;have Jb:w.heap.size<w5.heap.size:=by omega
   have af2:bt<w5.heap.size:=by omega
   clear hR5 Ug Uh hx5 hb5 hV
   by_cases hz:au l j [10,11,12,13]=0
   ·have HRR:Hid (F=PQ R A c d l i (.ok t j) w):=by show _=_;rw[bE];show PQ R A c d l i (if au l j [10,11,12,13]=0 then _ else _) w=_;rw[iP hz]
    rw[hz];clear hz;go_wp2_with fail;refine bR (Gg (ni HX5)) rfl ?_;rw[HRR];have h:=oq (.int .i64 t.op) (.int .i64 t.num) (.string t.name) (.slice A' n2 c') hij hjl fC OL (wH.trans HO5) HV5;unfold Tm.val at h;rw[←kU]at h;exact h
   ·have hzb:(au l j [10,11,12,13]==0)=false:=by simpa using hz
    have adu:=rO hz;have HRR:Hid (F=PQ R A c d l i ((P (j+1)).then fun u k=>.ok (dD (au l j [10,11,12,13]) [t,u]) k) w):=by show _=_;rw[bE];show PQ R A c d l i (if au l j [10,11,12,13]=0 then _ else _) w=_;rw[iN hz]
    obtain⟨zz,HZZ⟩:=ak (au l j [10,11,12,13]);rw[←HZZ]at hzb⊢;have c1:=OL.c1;have f1:=OL.frozen 1;clear hz;go_wp2_with fail;refine wp_region_any (by kernel_rfl) ?_
    change wpAny _ _ _ _ _ _ _ (World.drew _)
    obtain⟨W3,hW3⟩:=aj ((w5.setCell ⟨R,1,none⟩ (.int .i64 ((j:Int)+1))).drew);have hwn:yU R A l.length c d (j+1) w5 ((w5.setCell ⟨R,1,none⟩ (.int .i64 ((j:Int)+1))).drew):=zG (m:=1) (jf (m:=0) OL);rw[←hW3]at hwn⊢;have ho3:Only (fun q=>q=R) w5 W3:=hwn.2.1;have hs3:W3.heap.size=w5.heap.size:=hwn.2.2;have Ms:=wH.trans (HO5.trans ho3);have hcall:Calls Tryz.prog 192 #[.pointer (some ⟨R,0,none⟩)] W3 (PQ R A c d l (j+1) (P (j+1)) W3):=Am (j+1) W3 (by omega) hwn.1 (HP.only Ms) trivial;have hb3:=(ho3.block bt af2 hbr).trans pU;have Oh:=Hd ((ho3.block w.heap.size Jb (by omega)).trans HX5);have HB3:=Hd hb3;have HK3:Hid (aR (fun q=>w.heap.size<q) w5 W3):=aR.cO ho3 (by omega);obtain⟨r2,hr2⟩:=aj (P (j+1));have dJ:Hid (F=PQ R A c d l i (r2.then fun u k=>.ok (dD zz [t,u]) k) w):=by show _=_;rw[HRR,hr2,HZZ]
    rw[← hr2]at hcall;have Cx:=Lib.hid hcall;have Kn:=Lib.hid Ms;clear hW3 hwn ho3 Ms hcall hr2 hb3 c1 f1 zq v0 v1 v2 v3 y0 y1 y2 y3 xq;obtain⟨y0,y1,y2,y3,xq⟩:=q4 HB3;clear xq;refine wpAny_take (i:=0) (oi:={dst:=some 32,op:=Op.move (Operand.tmp 4),type:=3,pos := "ttext.go:279",after:=#[],guard:=none}) (v:=?_) rfl (by kernel_rfl) (by kernel_rfl) (by kernel_rfl) (fun _ _ _ h=>h) (Or.inl ⟨by rfl,?hy⟩) ?_
    case hy=>intro w0;go_simp;(first|done|with_reducible rfl)
    (try simp only[Act.put,aT,aU,aV]);refine wpAny_take (i:=2) (oi:={dst:=some 34,op:=Op.move (Operand.tmp 0),type:=182,pos := "ttext.go:279",after:=#[],guard:=none}) (v:=?_) rfl (by kernel_rfl) (by kernel_rfl) (by kernel_rfl) (fun _ _ _ h=>h) (Or.inl ⟨by rfl,?hy⟩) ?_
    case hy=>intro w0;go_simp;(first|done|with_reducible rfl)
    try simp only[Act.put,aT,aU,aV]
    cases r2 with
    |bad jb xb=>
     refine wpAny_ready (rs:=[1,3]) (by kernel_rfl) (by simp) ?_;refine AllReady.cons (o:={dst:=some 33,op:=Op.load 64 (Operand.tmp 3),type:=64,pos := "ttext.go:279",after:=#[],guard:=none}) rfl (fun K hK=>?_) ?_
     ·go_simp;refine hK _ _ ?_;clear hK K;(try simp only[Act.put,aT,aU,aV]);refine wpAny_ready (rs:=[3]) (by kernel_rfl) (by simp) ?_;refine AllReady.cons (o:={dst:=some 35,op:=Op.call {callee:=Callee.value (Operand.func 192),args:=#[Operand.tmp 34],argTypes:=#[182]},type:=64,pos := "ttext.go:279",after:=#[{on:=2,ground:=Ground.data}],guard:=none}) rfl (fun K hK=>?_) AllReady.nil;go_simp;(with_reducible refine(Cx.out).mono ?_);intro e w6 hq;obtain⟨rfl,iX⟩:=hq;refine(show _∧_ from⟨rfl,?_⟩);rw[dJ];exact⟨rfl,Kn.trans iX⟩
     ·refine AllReady.cons (o:={dst:=some 35,op:=Op.call {callee:=Callee.value (Operand.func 192),args:=#[Operand.tmp 34],argTypes:=#[182]},type:=64,pos := "ttext.go:279",after:=#[{on:=2,ground:=Ground.data}],guard:=none}) rfl (fun K hK=>?_) AllReady.nil;go_simp;(with_reducible refine(Cx.out).mono ?_);intro e w6 hq;obtain⟨rfl,iX⟩:=hq;refine(show _∧_ from⟨rfl,?_⟩);rw[dJ];exact⟨rfl,Kn.trans iX⟩
    |ok t2 j2=>
     refine wpAny_ready (rs:=[1,3]) (by kernel_rfl) (by simp) ?_;refine AllReady.cons (o:={dst:=some 33,op:=Op.load 64 (Operand.tmp 3),type:=64,pos := "ttext.go:279",after:=#[],guard:=none}) rfl (fun K hK=>?_) ?_
     ·go_simp;refine hK _ _ ?_;clear hK K;(try simp only[Act.put,aT,aU,aV]);refine wpAny_ready (rs:=[3]) (by kernel_rfl) (by simp) ?_;refine AllReady.cons (o:={dst:=some 35,op:=Op.call {callee:=Callee.value (Operand.func 192),args:=#[Operand.tmp 34],argTypes:=#[182]},type:=64,pos := "ttext.go:279",after:=#[{on:=2,ground:=Ground.data}],guard:=none}) rfl (fun K hK=>?_) AllReady.nil;go_simp;(with_reducible refine(Cx.out).mono ?_);intro e w6 hq;obtain⟨⟨A2,c2,rfl,hV2⟩,hij2,uH,uI,iX⟩:=hq;obtain⟨n3,AV⟩:=ak t2.kids.length;unfold Tm.val;rw[← AV];have Fy:=Lib.hid iX;have jm:=Lib.hid hV2;have o7:=Lib.hid uI;have hs6:=iX.size;have abJ:bt<w6.heap.size:=by omega
      have abN:w.heap.size<w6.heap.size:=by omega
      have hb6:=(iX.block bt (by omega) hbr).trans HB3;have Pq:=Lib.hid ((iX.block w.heap.size (by omega) (by omega)).trans Oh);clear hV2 uI iX y0 y1 y2 y3;obtain⟨y0,y1,y2,y3,xq⟩:=q4 hb6;clear xq hb6;obtain⟨v0,v1,v2,v3,zq⟩:=q4 Pq;refine hK _ _ ?_;clear hK K;(try simp only[Act.put,aT,aU,aV]);refine wpAny_ready (rs:=[4]) (by kernel_rfl) (by simp) ?_;refine AllReady.cons (o:={dst:=some 36,op:=Op.buildSlice 25 2 #[(0,Operand.tmp 33),(1,Operand.tmp 35)],type:=25,pos := "ttext.go:279",after:=#[{on:=1,ground:=Ground.data},{on:=3,ground:=Ground.data}],guard:=none}) rfl (fun K hK=>?_) AllReady.nil;go_simp;refine hK _ _ ?_;clear hK K;(try simp only[Act.put,aT,aU,aV]);refine wpAny_ready (rs:=[5]) (by kernel_rfl) (by simp) ?_;refine AllReady.cons (o:={dst:=some 37,op:=Op.build 64 #[(0,Operand.tmp 32),(3,Operand.tmp 36)],type:=64,pos := "ttext.go:279",after:=#[{on:=0,ground:=Ground.data},{on:=4,ground:=Ground.data}],guard:=none}) rfl (fun K hK=>?_) AllReady.nil;go_simp;refine hK _ _ ?_;clear hK K;(try simp only[Act.put,aT,aU,aV]);refine wpAny_ready (rs:=[6]) (by kernel_rfl) (by simp) ?_
      refine AllReady.cons (o:={dst:=none,op:=Op.store 64 (Operand.tmp 2) (Operand.tmp 37),type:=0,pos := "ttext.go:279",after:=#[{on:=5,ground:=Ground.data},{on:=3,ground:=Ground.chain},{on:=0,ground:=Ground.phase},{on:=1,ground:=Ground.phase},{on:=2,ground:=Ground.phase},{on:=3,ground:=Ground.phase},{on:=4,ground:=Ground.phase},{on:=5,ground:=Ground.phase}],guard:=none}) rfl (fun K hK=>?_) AllReady.nil;go_simp;refine hK _ _ ?_;clear hK K;(try simp only[Act.put,aT,aU,aV]);refine wpAny_done (by kernel_rfl) ?_ _;go_wp2_with fail;refine bodyPost_ret (Gg (sZ (ni Pq))) rfl ?_;rw[dJ,kU,AV];exact GZ zz (by omega) uH fC o7 (Kn.trans Fy) (by omega) ((HV5.keep HK3 (fun q _ h=>h)).keep (aR.cO Fy (by omega)) (fun q _ h=>h)) (jm.keep aR.refl (fun q _ h=>by omega))
     ·refine AllReady.cons (o:={dst:=some 35,op:=Op.call {callee:=Callee.value (Operand.func 192),args:=#[Operand.tmp 34],argTypes:=#[182]},type:=64,pos := "ttext.go:279",after:=#[{on:=2,ground:=Ground.data}],guard:=none}) rfl (fun K hK=>?_) AllReady.nil;go_simp;(with_reducible refine(Cx.out).mono ?_);intro e w6 hq;obtain⟨⟨A2,c2,rfl,hV2⟩,hij2,uH,uI,iX⟩:=hq;obtain⟨n3,AV⟩:=ak t2.kids.length;unfold Tm.val;rw[← AV];have Fy:=Lib.hid iX;have jm:=Lib.hid hV2;have o7:=Lib.hid uI;have hs6:=iX.size;have abJ:bt<w6.heap.size:=by omega
      have abN:w.heap.size<w6.heap.size:=by omega
      have hb6:=(iX.block bt (by omega) hbr).trans HB3;have Pq:=Lib.hid ((iX.block w.heap.size (by omega) (by omega)).trans Oh);clear hV2 uI iX y0 y1 y2 y3;obtain⟨y0,y1,y2,y3,xq⟩:=q4 hb6;clear xq hb6;obtain⟨v0,v1,v2,v3,zq⟩:=q4 Pq;refine hK _ _ ?_;clear hK K;(try simp only[Act.put,aT,aU,aV]);refine wpAny_ready (rs:=[1]) (by kernel_rfl) (by simp) ?_;refine AllReady.cons (o:={dst:=some 33,op:=Op.load 64 (Operand.tmp 3),type:=64,pos := "ttext.go:279",after:=#[],guard:=none}) rfl (fun K hK=>?_) AllReady.nil;go_simp;refine hK _ _ ?_;clear hK K;(try simp only[Act.put,aT,aU,aV]);refine wpAny_ready (rs:=[4]) (by kernel_rfl) (by simp) ?_;refine AllReady.cons (o:={dst:=some 36,op:=Op.buildSlice 25 2 #[(0,Operand.tmp 33),(1,Operand.tmp 35)],type:=25,pos := "ttext.go:279",after:=#[{on:=1,ground:=Ground.data},{on:=3,ground:=Ground.data}],guard:=none}) rfl (fun K hK=>?_) AllReady.nil;go_simp;refine hK _ _ ?_;clear hK K;(try simp only[Act.put,aT,aU,aV]);refine wpAny_ready (rs:=[5]) (by kernel_rfl) (by simp) ?_;refine AllReady.cons (o:={dst:=some 37,op:=Op.build 64 #[(0,Operand.tmp 32),(3,Operand.tmp 36)],type:=64,pos := "ttext.go:279",after:=#[{on:=0,ground:=Ground.data},{on:=4,ground:=Ground.data}],guard:=none}) rfl (fun K hK=>?_) AllReady.nil;go_simp;refine hK _ _ ?_;clear hK K;try simp only[Act.put,aT,aU,aV]
      refine wpAny_ready (rs:=[6]) (by kernel_rfl) (by simp) ?_;refine AllReady.cons (o:={dst:=none,op:=Op.store 64 (Operand.tmp 2) (Operand.tmp 37),type:=0,pos := "ttext.go:279",after:=#[{on:=5,ground:=Ground.data},{on:=3,ground:=Ground.chain},{on:=0,ground:=Ground.phase},{on:=1,ground:=Ground.phase},{on:=2,ground:=Ground.phase},{on:=3,ground:=Ground.phase},{on:=4,ground:=Ground.phase},{on:=5,ground:=Ground.phase}],guard:=none}) rfl (fun K hK=>?_) AllReady.nil;go_simp;refine hK _ _ ?_;clear hK K;(try simp only[Act.put,aT,aU,aV]);refine wpAny_done (by kernel_rfl) ?_ _;go_wp2_with fail;refine bodyPost_ret (Gg (sZ (ni Pq))) rfl ?_;rw[dJ,kU,AV];exact GZ zz (by omega) uH fC o7 (Kn.trans Fy) (by omega) ((HV5.keep HK3 (fun q _ h=>h)).keep (aR.cO Fy (by omega)) (fun q _ h=>h)) (jm.keep aR.refl (fun q _ h=>by omega))
structure Cy(R:Nat)(A:Option Addr)(c d:Nat)(l:List Tok)(i tb rb rs B0:Nat)(w0 wE wr:World)(v:Value)(acc:List jo)(j:Nat):Prop where
 own:wr.ownsRow B0 64 4 v acc.length (bY acc)
 vals:∀e∈acc,aD (fun q=>B0≤q∧v.ownBlock≠some q) wr e.A e.c e.t
 bN:iZ wr R A l.length c j d
 only:Only (fun q=>q=R) w0 wr
 box:vV R rb wr
 tbx:wr.heap[tb]?=some (.cells #[.int .i64 18,.int .i64 0,.string ⟨#[]⟩,v] 64 (0,0))
 res:wr.heap[rs]?=some (.cells #[.int .i64 0,.int .i64 0,.string ⟨#[]⟩,.slice none 0 0] 64 (0,0))
 ij:i≤j
 jl:j≤l.length
 big:B0≤wr.heap.size
 two:Only (fun q=>q=R∨q=tb) wE wr
 eB:wE.heap.size≤B0
 rsE:wE.heap.size≤rs
structure IfN(R tb rb rs B0:Nat)(w0:World):Prop where
 r0:R<w0.heap.size
 tb0:w0.heap.size≤tb
 rb0:w0.heap.size≤rb
 rs0:w0.heap.size≤rs
 tbB:tb<B0
 rbB:rb<B0
 rsB:rs<B0
 ne1:tb≠rb
 zT:tb≠rs
 ne3:rb≠rs
section
variable {R c d i tb rb rs B0 j j2:Nat} {A:Option Addr} {l:List Tok} {w0 wE wr w':World} {v:Value} {acc:List jo}
theorem Cy.Et(h:Cy R A c d l i tb rb rs B0 w0 wE wr v acc j)(hn:IfN R tb rb rs B0 w0)(ho:Only (fun q=>q=R) wr w')(hr:iZ w' R A l.length c j2 d)(hj:j≤j2)(hjl:j2≤l.length):Cy R A c d l i tb rb rs B0 w0 wE w' v acc j2:=by
 have hRB:R<B0:=by have:=hn.r0;have:=hn.tb0;have:=hn.tbB;omega
 have h1:=hn.r0;have h2:=hn.tb0;have h3:=hn.rs0;have h4:=hn.tbB;have h5:=hn.rsB;have h6:=h.big;refine⟨Ui h.own ho hRB,fun e he=>(h.vals e he).keep (aR.cO ho (fun hq=>by have:=hq.1;omega)) (fun _ _ h=>h),hr,h.only.trans ho,h.box.only ho,(ho.block tb (by omega) (by omega)).trans h.tbx,(ho.block rs (by omega) (by omega)).trans h.res,Nat.le_trans h.ij hj,hjl,Nat.le_trans h.big ho.size,h.two.trans (ho.mono fun q h=>.inl h),h.eB,h.rsE⟩
theorem Cy.alloc(h:Cy R A c d l i tb rb rs B0 w0 wE wr v acc j)(hn:IfN R tb rb rs B0 w0)(o:Obj):Cy R A c d l i tb rb rs B0 w0 wE (wr.alloc o) v acc j:=
 h.Et hn (Ob ((Br _ _).alloc (lr _) _)) (h.bN.below ((Br _ _).alloc (lr _) _) h.bN.lt) (lr _) h.jl
theorem Cy.drew(h:Cy R A c d l i tb rb rs B0 w0 wE wr v acc j)(hn:IfN R tb rb rs B0 w0):Cy R A c d l i tb rb rs B0 w0 wE wr.drew v acc j:=
 h.Et hn ((Only.refl (F:=fun q=>q=R)).drewN 1) (h.bN.drewN 1) (lr _) h.jl
theorem Cy.put{W7:World}{A2:Option Addr}{c2 g cap o:Nat}{t2:Tm}(h:Cy R A c d l i tb rb rs B0 w0 wE wr v acc j)(hn:IfN R tb rb rs B0 w0)(hV:aD (fun q=>B0≤q∧v.ownBlock≠some q) wr A2 c2 t2)
 (hown:W7.ownsRow B0 64 4 (.slice (some ⟨g,0,none⟩) (acc.length+1) cap) (acc.length+1) (bY acc++[.int .i64 0,.int .i64 0,.string ⟨#[]⟩,.slice none 0 0])) (hg:wr.grownBy W7 v.ownBlock) (hat:v.ownBlock=some g∨g=wr.heap.size) (ho:o=acc.length*4) :
 Cy R A c d l i tb rb rs B0 w0 wE (((((W7.setCell ⟨g,o,none⟩ (.int .i64 t2.op)).setCell ⟨g,o+1,none⟩ (.int .i64 t2.num)).setCell ⟨g,o+2,none⟩ (.string t2.name)).setCell ⟨g,o+3,none⟩ (.slice A2 t2.kids.length c2)).setCell ⟨tb,3,none⟩ (.slice (some ⟨g,0,none⟩) (acc.length+1) cap)) (.slice (some ⟨g,0,none⟩) (acc.length+1) cap) (acc++[⟨t2,A2,c2⟩]) j:=by
 have h1:=hn.r0;have h2:=hn.tb0;have h3:=hn.rs0;have h4:=hn.tbB;have h5:=hn.rsB;have h6:=h.big;have h7:=hn.rbB;have h8:=hn.rb0;have hlt:∀q,v.ownBlock=some q→B0≤q∧q<wr.heap.size:=fun q hq=>h.own.lt q hq
 have hgB:B0≤g:=by
  rcases hat with hat|hat
  ·exact(hlt g hat).1
  ·omega
 have hk:∀q,v.ownBlock≠some q→q<wr.heap.size→W7.heap[q]?=wr.heap[q]?:=fun q hq hl=>hg.block q hl (fun e=>hq e.symm)
 have hkg:∀q,v.ownBlock≠some q→q<wr.heap.size→q≠g:=fun q hq hl e=>by
  rcases hat with hat|hat
  ·exact hq (e ▸ hat)
  ·omega
 have hold:∀q,q<B0→v.ownBlock≠some q:=fun q hq e=>by have:=(hlt q e).1;omega
 obtain⟨WS,hWS⟩:=aj ((((W7.setCell ⟨g,o,none⟩ (.int .i64 t2.op)).setCell ⟨g,o+1,none⟩ (.int .i64 t2.num)).setCell ⟨g,o+2,none⟩ (.string t2.name)).setCell ⟨g,o+3,none⟩ (.slice A2 t2.kids.length c2));rw[←hWS]
 have hS:∀q,q≠g→WS.heap[q]?=W7.heap[q]?:=fun q hq=>by
  rw[hWS,iw _ ⟨g,o+3,none⟩ q _ hq,iw _ ⟨g,o+2,none⟩ q _ hq,iw _ ⟨g,o+1,none⟩ q _ hq,iw _ ⟨g,o,none⟩ q _ hq]
 have hSs:WS.heap.size=W7.heap.size:=by rw[hWS];simp
 have hs7:=hg.size
 have hownS:WS.ownsRow B0 64 4 (.slice (some ⟨g,0,none⟩) (acc.length+1) cap) (acc.length+1) (bY (acc++[⟨t2,A2,c2⟩])):=by
  have x:=((((hown.stored o (.int .i64 t2.op)).1.stored (o+1) (.int .i64 t2.num)).1.stored (o+2) (.string t2.name)).1.stored (o+3) (.slice A2 t2.kids.length c2)).1;rw[←hWS]at x;have hl:(bY acc).length=o:=by rw[tu,ho]
  have e:((((bY acc++([.int .i64 0,.int .i64 0,.string ⟨#[]⟩,.slice none 0 0]:List Value)).set o (.int .i64 t2.op)).set (o+1) (.int .i64 t2.num)).set (o+2) (.string t2.name)).set (o+3) (.slice A2 t2.kids.length c2)=bY (acc++[⟨t2,A2,c2⟩]):=by
   rw[Fx,←hl];simp[jo.cells,List.set_append_right]
  rw[e]at x;exact x
 have hall:∀q,v.ownBlock≠some q→q<wr.heap.size→q≠tb→(WS.setCell ⟨tb,3,none⟩ (.slice (some ⟨g,0,none⟩) (acc.length+1) cap)).heap[q]?=wr.heap[q]?:=fun q hq hl hne=>by
  rw[iw _ ⟨tb,3,none⟩ q _ hne,hS q (hkg q hq hl)];exact hk q hq hl
 have hsF:(WS.setCell ⟨tb,3,none⟩ (.slice (some ⟨g,0,none⟩) (acc.length+1) cap)).heap.size=W7.heap.size:=by simp[hSs]
 have hkeep:aR (fun q=>B0≤q∧v.ownBlock≠some q) wr (WS.setCell ⟨tb,3,none⟩ (.slice (some ⟨g,0,none⟩) (acc.length+1) cap)):=⟨by rw[hsF];exact hs7,fun q hq hl=>hall q hq.2 hl (by have:=hq.1;omega)⟩
 have hfin:∀q,q<wr.heap.size→(B0≤q∧v.ownBlock≠some q)→(B0≤q∧(Value.slice (some ⟨g,0,none⟩) (acc.length+1) cap).ownBlock≠some q):=fun q hq hh=>⟨hh.1,fun e=>by
  have e2:g=q:=by simpa[Value.ownBlock]using e
  exact hkg q hh.2 hq e2.symm⟩
 refine⟨?_,?_,?_,?_,?_,?_,?_,h.ij,h.jl,by rw[hsF];omega,?_,h.eB,h.rsE⟩
 ·rw[List.length_append];have hgl:=(hownS.lt g rfl).2
  exact hownS.kept (row:=some tb) ⟨rfl,rfl,rfl,by simp,fun k hk hne=>iw _ ⟨tb,3,none⟩ k _ (fun e=>hne (by rw[e]))⟩ (.inr (fun e=>by
   have e2:g=tb:=by simpa[Value.ownBlock]using e
   omega))
 ·intro e he
  rcases List.mem_append.1 he with he|he
  ·exact(h.vals e he).keep hkeep hfin
  ·rw[List.mem_singleton.1 he];exact hV.keep hkeep hfin
 ·exact(hall R (hold R (by omega)) (by omega) (by omega)).trans h.bN
 ·have hO:=h.only;have e1:WS.os=W7.os:=by rw[hWS];rfl
  have e2:WS.tape=W7.tape:=by rw[hWS];rfl
  have e3:WS.output=W7.output:=by rw[hWS];rfl
  refine⟨e1.trans (hg.os.trans hO.os),e2.trans (hg.tape.trans hO.tape),e3.trans (hg.output.trans hO.output),by rw[hsF];exact Nat.le_trans hO.size hs7,fun q hq hf=>?_⟩;rw[hall q (hold q (by omega)) (lL hq hO.size) (by omega)];exact hO.block q hq hf
 ·exact h.box.block (hall rb (hold rb h7) (by omega) (fun e=>hn.ne1 e.symm)) (by rw[hsF];exact hs7)
 ·have hx:WS.heap[tb]?=some (.cells #[.int .i64 18,.int .i64 0,.string ⟨#[]⟩,v] 64 (0,0)):=(hS tb (by omega)).trans ((hk tb (hold tb h4) (by omega)).trans h.tbx);simp[World.setCell,Array.getElem?_modify,hx]
 ·exact(hall rs (hold rs h5) (by omega) (fun e=>hn.zT e.symm)).trans h.res
 ·have hO:=h.two;have h9:=h.eB;have e1:WS.os=W7.os:=by rw[hWS];rfl
  have e2:WS.tape=W7.tape:=by rw[hWS];rfl
  have e3:WS.output=W7.output:=by rw[hWS];rfl
  refine⟨e1.trans (hg.os.trans hO.os),e2.trans (hg.tape.trans hO.tape),e3.trans (hg.output.trans hO.output),by rw[hsF];exact Nat.le_trans hO.size hs7,fun q hq hf=>?_⟩;rw[hall q (hold q (by omega)) (lL hq hO.size) (fun e=>hf (.inr e))];exact hO.block q hq hf
end
end Go.Proofs.YtkhoeoilamddaaaGreatDoor
