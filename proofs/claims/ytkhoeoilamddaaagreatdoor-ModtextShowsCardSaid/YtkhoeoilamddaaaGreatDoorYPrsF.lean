/- Walks and plain words: PrsF PrsG PrsH PrsI. -/
import Derived.Test.YtkhoeoilamddaaaGreatDoorYPrsD
namespace Go.Proofs.YtkhoeoilamddaaaGreatDoor
open Go.RowKit
set_option linter.unusedVariables false
set_option maxRecDepth 100000
set_option maxHeartbeats 8000000
def vV(R rb:Nat)(w:World):Prop:=w.cell? ⟨rb,0,none⟩=some (.pointer (some ⟨R,0,none⟩))∧rb<w.heap.size∧rb≠R
theorem vV.only{R rb:Nat}{w w':World}(h:vV R rb w)(ho:Only (fun q=>q=R) w w'):vV R rb w':=⟨by rw[ho.cell h.2.1 h.2.2];exact h.1,lL h.2.1 ho.size,h.2.2⟩
theorem abK(R:Nat)(A:Option Addr)(c d:Nat)(l:List Tok)(rb:Nat)(P:jN)(hF:KR R A c d l 204 (.pointer (some ⟨R,0,none⟩)) (fun _=>True) P) :
 KR R A c d l 203 (.pointer (some ⟨rb,0,none⟩)) (vV R rb) (left l P [16,17]):=by
 intro i w hi hR hP hw;have fC:=hR.lt;obtain⟨w1,hw1⟩:=aj (w.alloc (.cells #[.int .i64 0,.int .i64 0,.string ⟨#[]⟩,.slice none 0 0] 64));have hb1:=dz hw1;have hs1:w1.heap.size=w.heap.size+1:=by rw[hw1];simp
 have hbx:w1.heap[w.heap.size]?=some (.cells #[.int .i64 0,.int .i64 0,.string ⟨#[]⟩,.slice none 0 0] 64 (0,0)):=by rw[hw1];exact eu w _
 have ho1:Only (fun q=>q=R) w w1:=Ob hb1;have k0:=hw.1;have k0':=(hw.only ho1).1;have krb:=hw.2.1;obtain⟨w2,hw2⟩:=aj (w1.alloc (.cells #[.int .i64 16,.int .i64 17] 3));have hb2:=dz hw2;have hs2:w2.heap.size=w1.heap.size+1:=by rw[hw2];simp
 have ho2:Only (fun q=>q=R) w w2:=ho1.trans (Ob hb2);have hR2:iZ w2 R A l.length c i d:=(hR.below hb1 fC).below hb2 (by omega);have hops:uF w2 w1.heap.size [16,17]:=by rw[hw2];exact tY w1 [16,17]
 have hcall:Calls Tryz.prog 202 #[.pointer (some ⟨R,0,none⟩),.func (.func 204) #[.pointer (some ⟨R,0,none⟩)] #[],.slice (some ⟨w1.heap.size,0,none⟩) 2 2] w2 (PQ R A c d l i (left l P [16,17] i) w2):=Pv R A c d l 204 (.pointer (some ⟨R,0,none⟩)) true (fun _=>True) P w1.heap.size 2 [16,17] i w2 (fun _ _=>by kernel_rfl) (fun _ _ _ _=>trivial) hF hi hR2 (hP.only ho2) trivial hops (by decide) (by omega) (by omega);rw[hs1]at hcall;have adA:=(hb2.block w.heap.size (by omega)).trans hbx;obtain⟨r,hr⟩:=aj (left l P [16,17] i);obtain⟨F,vU⟩:=aj (PQ R A c d l i (left l P [16,17] i) w);have bE:Hid (F=PQ R A c d l i r w):=by show _=_;rw[vU,hr]
 rw[←vU];rw[←hr]at hcall;have HC:=Hd hcall;have HW1:=Hd hw1;have HW2:=Hd hw2;have Ah:=Hd ho2;have ahz:=Hd adA;clear hcall hr vU hw1 hw2 hb1 hb2 ho1 ho2 hbx adA hF hP hw hR hops hR2;go_in;go_wp2_with fail;rw[←HW1];go_wp2_with fail;rw[←HW2];refine HC.mono ?_;intro e w4 hq
 cases r with
 |bad j x=>
  obtain⟨rfl,iC⟩:=hq;refine(show _∧_ from⟨rfl,?_⟩);rw[bE];exact⟨rfl,Ah.trans iC⟩
 |ok t j=>
  obtain⟨⟨A',c',rfl,hV⟩,hij,hjl,vD,iC⟩:=hq;have hbw:=(iC.block w.heap.size (by omega) (by omega)).trans ahz;have hs4:=iC.size;obtain⟨n2,hn2⟩:=aj t.kids.length;have hend:=fun v0 v1 v2 v3=>oq v0 v1 v2 v3 hij hjl fC vD (Ah.trans iC) (hV.keep Kr (fun q _ h=>by omega));unfold Tm.val at hend⊢;rw[←hn2]at hend⊢;have Cn:=Hd hend;have kH:=Hd hbw;obtain⟨v0,v1,v2,v3,zq⟩:=q4 hbw;clear hV vD iC hn2 hij hend hbw;go_wp2_with fail;refine bR (Gg (ni kH)) rfl ?_;rw[bE];exact Cn _ _ _ _
theorem abL(R:Nat)(A:Option Addr)(c d:Nat)(l:List Tok)(rb:Nat)(P:jN)(hF:KR R A c d l 173 (.pointer (some ⟨R,0,none⟩)) (fun _=>True) P) :
 KR R A c d l 172 (.pointer (some ⟨rb,0,none⟩)) (vV R rb) (many l 6 P):=by
 intro i w hi hR hP hw;have fC:=hR.lt;obtain⟨w1,hw1⟩:=aj (w.alloc (.cells #[.int .i64 0,.int .i64 0,.string ⟨#[]⟩,.slice none 0 0] 64));have hb1:=dz hw1;have hs1:w1.heap.size=w.heap.size+1:=by rw[hw1];simp
 have hbx:w1.heap[w.heap.size]?=some (.cells #[.int .i64 0,.int .i64 0,.string ⟨#[]⟩,.slice none 0 0] 64 (0,0)):=by rw[hw1];exact eu w _
 have ho1:Only (fun q=>q=R) w w1:=Ob hb1;have k0:=hw.1;have k0':=(hw.only ho1).1;have krb:=hw.2.1;have sQ:iZ w1 R A l.length c i d:=hR.below hb1 fC;have hcall:Calls Tryz.prog 171 #[.pointer (some ⟨R,0,none⟩),.int .i64 6,.func (.func 173) #[.pointer (some ⟨R,0,none⟩)] #[]] w1 (PQ R A c d l i (many l 6 P i) w1):=Pt R A c d l 173 (.pointer (some ⟨R,0,none⟩)) true (fun _=>True) P 6 i w1 (fun _ _=>by kernel_rfl) (fun _ _ _ _=>trivial) hF hi sQ (hP.only ho1) trivial;obtain⟨r,hr⟩:=aj (many l 6 P i);obtain⟨F,vU⟩:=aj (PQ R A c d l i (many l 6 P i) w);have bE:Hid (F=PQ R A c d l i r w):=by show _=_;rw[vU,hr]
 rw[←vU];rw[←hr]at hcall;have HC:=Hd hcall;have HW1:=Hd hw1;have wH:=Hd ho1;have akh:=Hd hbx;clear hcall hr vU hw1 hb1 ho1 hbx hF hP hw hR sQ;go_in;go_wp2_with fail;rw[←HW1];refine HC.mono ?_;intro e w4 hq
 cases r with
 |bad j x=>
  obtain⟨rfl,iC⟩:=hq;refine(show _∧_ from⟨rfl,?_⟩);rw[bE];exact⟨rfl,wH.trans iC⟩
 |ok t j=>
  obtain⟨⟨A',c',rfl,hV⟩,hij,hjl,vD,iC⟩:=hq;have hbw:=(iC.block w.heap.size (by omega) (by omega)).trans akh;have hs4:=iC.size;obtain⟨n2,hn2⟩:=aj t.kids.length;have hend:=fun v0 v1 v2 v3=>oq v0 v1 v2 v3 hij hjl fC vD (wH.trans iC) (hV.keep Kr (fun q _ h=>by omega));unfold Tm.val at hend⊢;rw[←hn2]at hend⊢;have Cn:=Hd hend;have kH:=Hd hbw;obtain⟨v0,v1,v2,v3,zq⟩:=q4 hbw;clear hV vD iC hn2 hij hend hbw;go_wp2_with fail;refine bR (Gg (ni kH)) rfl ?_;rw[bE];exact Cn _ _ _ _
theorem PQ.back{R c d i:Nat}{A:Option Addr}{l:List Tok}{r:Rs Tm}{w wb w':World}{e:Ending}(h:PQ R A c d l i r wb e w')(ho:Only (fun q=>q=R) w wb):PQ R A c d l i r w e w':=by
 have hs:=ho.size
 cases r with
 |bad j x=>exact⟨h.1,ho.trans h.2⟩
 |ok t j=>
  obtain⟨⟨A',c',he,hV⟩,h1,h2,h3,h4⟩:=h;exact⟨⟨A',c',he,hV.keep Kr (fun q _ hq=>Nat.le_trans hs hq)⟩,h1,h2,h3,ho.trans h4⟩
theorem adB(R:Nat)(A:Option Addr)(c d:Nat)(l:List Tok)(P:jN)(hF:KR R A c d l 204 (.pointer (some ⟨R,0,none⟩)) (fun _=>True) P) :
 KR R A c d l 192 (.pointer (some ⟨R,0,none⟩)) (fun _=>True) (left l (left l P [16,17]) [14,15]):=by
 intro i w hi hR hP hw;have fC:=hR.lt;obtain⟨wb,hwb⟩:=aj (w.alloc (.cells #[.pointer (some ⟨R,0,none⟩)] 182));have hbb:=dz hwb;have hsb:wb.heap.size=w.heap.size+1:=by rw[hwb];simp
 have hob:Only (fun q=>q=R) w wb:=Ob hbb;have hRb:iZ wb R A l.length c i d:=hR.below hbb fC;have vF:vV R w.heap.size wb:=⟨by rw[hwb];exact(cR _ _ 0 _ _ (0,0) (eu w _)).trans rfl,by omega,by omega⟩;obtain⟨w1,hw1⟩:=aj (wb.alloc (.cells #[.int .i64 0,.int .i64 0,.string ⟨#[]⟩,.slice none 0 0] 64));have hb1:=dz hw1;have hs1:w1.heap.size=w.heap.size+1+1:=by rw[hw1];simp[hsb]
 have hbx:w1.heap[wb.heap.size]?=some (.cells #[.int .i64 0,.int .i64 0,.string ⟨#[]⟩,.slice none 0 0] 64 (0,0)):=by rw[hw1];exact eu wb _
 have ho1:Only (fun q=>q=R) wb w1:=Ob hb1;obtain⟨w2,hw2⟩:=aj (w1.alloc (.cells #[.int .i64 14,.int .i64 15] 3));have hb2:=dz hw2;have hs2:w2.heap.size=w.heap.size+3:=by rw[hw2];simp[hs1]
 have ho2:Only (fun q=>q=R) wb w2:=ho1.trans (Ob hb2);have hR2:iZ w2 R A l.length c i d:=(hRb.below hb1 (by omega)).below hb2 (by omega);have hops:uF w2 w1.heap.size [14,15]:=by rw[hw2];exact tY w1 [14,15]
 have k0:=vF.1;have k0':=(vF.only ho1).1
 have hcall:Calls Tryz.prog 202 #[.pointer (some ⟨R,0,none⟩),.func (.func 203) #[] #[.pointer (some ⟨w.heap.size,0,none⟩)],.slice (some ⟨w1.heap.size,0,none⟩) 2 2] w2 (PQ R A c d l i (left l (left l P [16,17]) [14,15] i) w2):=
  Pv R A c d l 203 (.pointer (some ⟨w.heap.size,0,none⟩)) false (vV R w.heap.size) (left l P [16,17]) w1.heap.size 2 [14,15] i w2 (fun _ _=>by kernel_rfl) (fun _ _ h ho=>h.only ho) (abK R A c d l w.heap.size P hF) hi hR2 (hP.only (hob.trans ho2)) (vF.only ho2) hops (by decide) (by omega) (by omega)
 rw[hs1]at hcall;have adA:=(hb2.block wb.heap.size (by omega)).trans hbx;obtain⟨r,hr⟩:=aj (left l (left l P [16,17]) [14,15] i);obtain⟨F,vU⟩:=aj (PQ R A c d l i (left l (left l P [16,17]) [14,15] i) w);have bE:Hid (F=PQ R A c d l i r w):=by show _=_;rw[vU,hr]
 rw[←vU];rw[←hr]at hcall;have HC:=Hd hcall;have jy:=Hd hwb;have p9:=Hd hsb;have HOB:=Hd hob;have HW1:=Hd hw1;have HW2:=Hd hw2;have Ah:=Hd ho2;have ahz:=Hd adA;clear hcall hr vU hwb hbb hob hRb vF hw1 hw2 hb1 hb2 ho1 ho2 hbx adA hF hP hw hR hops hR2;go_in;go_wp2_with fail;rw[←jy,←HW1,←HW2];refine HC.mono ?_;intro e w4 hq
 cases r with
 |bad j x=>
  obtain⟨rfl,iC⟩:=hq;refine(show _∧_ from⟨rfl,?_⟩);rw[bE];exact⟨rfl,HOB.trans (Ah.trans iC)⟩
 |ok t j=>
  obtain⟨⟨A',c',rfl,hV⟩,hij,hjl,vD,iC⟩:=hq;have hbw:=(iC.block wb.heap.size (by omega) (by omega)).trans ahz;have hs4:=iC.size;obtain⟨n2,hn2⟩:=aj t.kids.length;have hend:=fun v0 v1 v2 v3=>PQ.back (oq v0 v1 v2 v3 hij hjl (by omega) vD (Ah.trans iC) (hV.keep Kr (fun q _ h=>by omega))) HOB;unfold Tm.val at hend⊢;rw[←hn2]at hend⊢;rw[p9]at hend hbw;have Cn:=Hd hend;have kH:=Hd hbw;obtain⟨v0,v1,v2,v3,zq⟩:=q4 hbw;clear hV vD iC hn2 hij hend hbw;go_wp2_with fail;refine bR (Gg (ni kH)) rfl ?_;rw[bE];exact Cn _ _ _ _
set_option linter.unusedSimpArgs false
theorem GZ{R c d i j:Nat}{A A' A2:Option Addr}{c' c2:Nat}{l:List Tok}{w w6:World}{t t2:Tm}(op:Int)(hij:i<j)(hjl:j≤l.length)(Og:R<w.heap.size)(hR:iZ w6 R A l.length c j d)(hO:Only (fun q=>q=R) w w6)(hs:w.heap.size<w6.heap.size)(hV:aD (fun q=>w.heap.size<q) w6 A' c' t)(hV2:aD (fun q=>w.heap.size<q) w6 A2 c2 t2) :
 PQ R A c d l i (.ok (dD op [t,t2]) j) w (.returned (.agg #[.int .i64 op,.int .i64 0,.string ⟨#[]⟩,.slice (some ⟨w6.heap.size,0,none⟩) 2 2])) (((((w6.setCell ⟨w.heap.size,0,none⟩ (.int .i64 op)).setCell ⟨w.heap.size,1,none⟩ (.int .i64 0)).setCell ⟨w.heap.size,2,none⟩ (.string ⟨#[]⟩)).setCell ⟨w.heap.size,3,none⟩ (.slice (some ⟨w6.heap.size,0,none⟩) 2 2)).alloc (.cells #[.int .i64 t.op,.int .i64 t.num,.string t.name,.slice A' t.kids.length c',.int .i64 t2.op,.int .i64 t2.num,.string t2.name,.slice A2 t2.kids.length c2] 64)):=by
 obtain⟨WQ,Jc⟩:=aj ((((w6.setCell ⟨w.heap.size,0,none⟩ (.int .i64 op)).setCell ⟨w.heap.size,1,none⟩ (.int .i64 0)).setCell ⟨w.heap.size,2,none⟩ (.string ⟨#[]⟩)).setCell ⟨w.heap.size,3,none⟩ (.slice (some ⟨w6.heap.size,0,none⟩) 2 2));rw[←Jc];have hne:R≠w.heap.size:=by omega
 have N_:WQ.heap.size=w6.heap.size:=by rw[Jc];simp
 have hRQ:iZ WQ R A l.length c j d:=by
  rw[Jc];unfold iZ;rw[iw _ ⟨w.heap.size,3,none⟩ R _ hne,iw _ ⟨w.heap.size,2,none⟩ R _ hne,iw _ ⟨w.heap.size,1,none⟩ R _ hne,iw _ ⟨w.heap.size,0,none⟩ R _ hne];exact hR
 have hkQ:aR (fun q=>w.heap.size<q) w6 WQ:=by
  rw[Jc];exact(((aR.refl.set (by omega) _).set (by omega) _).set (by omega) _).set (by omega) _
 have hOQ:Only (fun q=>q=R) w WQ:=by rw[Jc];exact Ja hO
 obtain⟨W7,OJ⟩:=aj (WQ.alloc (.cells #[.int .i64 t.op,.int .i64 t.num,.string t.name,.slice A' t.kids.length c',.int .i64 t2.op,.int .i64 t2.num,.string t2.name,.slice A2 t2.kids.length c2] 64));rw[←OJ];have iY:=dz OJ;have hs7:W7.heap.size=w6.heap.size+1:=by rw[OJ];simp[N_]
 have GY:W7.heap[w6.heap.size]?=some (.cells (bY [⟨t,A',c'⟩,⟨t2,A2,c2⟩]).toArray 64 (0,0)):=by rw[OJ,←N_];exact eu WQ _
 have nS:aR (fun q=>w.heap.size<q) w6 W7:=hkQ.trans (Kb iY);refine⟨⟨some ⟨w6.heap.size,0,none⟩,2,rfl,lr _,by unfold maxLen;omega,zl _,.inr ⟨w6.heap.size,0,rfl,Nat.le_of_lt hs,by omega,?_⟩⟩,hij,hjl,hRQ.below iY (by omega),hOQ.trans (Ob iY)⟩
 refine jP [⟨t,A',c'⟩,⟨t2,A2,c2⟩] 0 (fun k v hv=>by
  rw[Nat.zero_add,cR _ _ k _ _ (0,0) GY]
  simpa using hv) ?_
 intro e he;simp only[List.mem_cons,List.not_mem_nil,or_false]at he
 rcases he with rfl|rfl
 ·exact hV.keep nS (fun q _ h=>Nat.le_of_lt h)
 ·exact hV2.keep nS (fun q _ h=>Nat.le_of_lt h)
theorem abM(R:Nat)(A:Option Addr)(c d:Nat)(l:List Tok)(P:jN)(hF:KR R A c d l 145 (.pointer (some ⟨R,0,none⟩)) (fun _=>True) P) :
 KR R A c d l 122 (.pointer (some ⟨R,0,none⟩)) (fun _=>True) (Bu l P):=by
 intro i w hi hR hP hw;have hlen:=hP.len;have fC:=hR.lt;obtain⟨w1,hw1⟩:=aj (w.alloc (.cells #[.int .i64 0,.int .i64 0,.string ⟨#[]⟩,.slice none 0 0] 64));have hb1:=dz hw1;have hs1:w1.heap.size=w.heap.size+1:=by rw[hw1];simp
 have hbx:w1.heap[w.heap.size]?=some (.cells #[.int .i64 0,.int .i64 0,.string ⟨#[]⟩,.slice none 0 0] 64 (0,0)):=by rw[hw1];exact eu w _
 have ho1:Only (fun q=>q=R) w w1:=Ob hb1;have hc1:Calls Tryz.prog 145 #[.pointer (some ⟨R,0,none⟩)] w1 (PQ R A c d l i (P i) w1):=hF i w1 hi (hR.below hb1 fC) (hP.only ho1) trivial;obtain⟨r1,hr1⟩:=aj (P i);obtain⟨F,vU⟩:=aj (PQ R A c d l i (Bu l P i) w);have bE:Hid (F=PQ R A c d l i (r1.then fun t j=>if au l j [9]=0 then .ok t j else(P (j+1)).then fun u k=>.ok (dD 9 [t,u]) k) w):=by show _=_;rw[vU,hr1];rfl
 rw[←vU];rw[←hr1]at hc1;have HC1:=Hd hc1;have HW1:=Hd hw1;have wH:=Hd ho1;have qH:=Hd hbx;have Am:=Hd hF;have HP:=Hd hP;clear hc1 hr1 vU hw1 hb1 ho1 hbx hF hP hw hR;go_in;go_wp2_with fail;rw[←HW1];refine HC1.mono ?_;intro e w4 hq
 cases r1 with
 |bad j x=>
  obtain⟨rfl,iC⟩:=hq;refine(show _∧_ from⟨rfl,?_⟩);rw[bE];exact⟨rfl,wH.trans iC⟩
 |ok t j=>
  obtain⟨⟨A',c',rfl,hV⟩,hij,hjl,vD,iC⟩:=hq;have hs4:=iC.size;obtain⟨n2,hn2⟩:=aj t.kids.length;unfold Tm.val;rw[←hn2];obtain⟨bt,hbt⟩:=aj w4.heap.size;obtain⟨wt,hwt⟩:=aj (w4.alloc (.cells #[.int .i64 t.op,.int .i64 t.num,.string t.name,.slice A' n2 c'] 64));have xX:=dz hwt;have hst:wt.heap.size=bt+1:=by rw[hwt,hbt];simp
  have vF:wt.heap[bt]?=some (.cells #[.int .i64 t.op,.int .i64 t.num,.string t.name,.slice A' n2 c'] 64 (0,0)):=by rw[hwt,hbt];exact eu w4 _
  obtain⟨wo,hwo⟩:=aj (wt.alloc (.cells #[.int .i64 9] 3));have Uj:=dz hwo;have hso:wo.heap.size=bt+2:=by rw[hwo];simp[hst]
  have hOO:Only (fun q=>q=R) w1 wo:=iC.trans ((Ob xX).trans (Ob Uj));have hRO:iZ wo R A l.length c j d:=(vD.below xX (by omega)).below Uj (by omega);have JV:=(Uj.block bt (by omega)).trans vF
  have hsg:Calls Tryz.prog 146 #[.pointer (some ⟨R,0,none⟩),.slice (some ⟨wt.heap.size,0,none⟩) 1 1] wo fun e w'=>e=.returned (.int .i64 (au l j [9]))∧∃n,w'=wo.drewN n:=
   zR R A c j d l wt.heap.size 1 [9] wo hRO (HP.only (wH.trans hOO)) (by omega) (by rw[hwo];exact tY wt [9]) (by simp) (by omega)
  rw[hst]at hsg;have HK:Hid (aR (fun q=>w1.heap.size≤q) w4 wo):=(Kb xX).trans (Kb Uj);have qj:=Hd hsg;have HWT:=Hd hwt;have HWO:=Hd hwo;have oW:=Hd hbt;have kU:=Hd hn2;clear hn2 hwt hwo xX Uj vF hsg;go_wp2_with fail;rw[←oW,←HWT,←HWO];refine qj.mono ?_;rintro e w5 ⟨rfl,q,gH⟩;have Ug:Only (fun q=>q=R) w1 w5:=by rw[gH];exact hOO.drewN q
  have hR5:iZ w5 R A l.length c j d:=by rw[gH];exact hRO.drewN q
  have hb5:w5.heap[bt]?=some (.cells #[.int .i64 t.op,.int .i64 t.num,.string t.name,.slice A' n2 c'] 64 (0,0)):=by rw[gH];exact JV
  have hs5:w5.heap.size=bt+2:=by rw[gH];exact hso
  have ai_:w1.heap.size≤bt:=by rw[hbt];exact hs4
  have hbr:bt≠R:=by omega
  have hx5:=(Ug.block w.heap.size (by omega) (by omega)).trans qH;have hk5:aR (fun q=>w1.heap.size≤q) w4 w5:=by rw[gH];exact⟨by show w4.heap.size≤wo.heap.size;omega,fun q hq hl=>HK.block q hq hl⟩
  have Uh:aD (fun q=>w.heap.size<q) w5 A' c' t:=hV.keep hk5 (fun q _ h=>by omega);clear hk5 hbt gH hso hOO hRO JV vD;have OL:=Hd hR5;have HO5:=Hd Ug;have HV5:=Hd Uh;have HX5:=Hd hx5;have pU:=Hd hb5;obtain⟨v0,v1,v2,v3,zq⟩:=q4 hx5;obtain⟨y0,y1,y2,y3,xq⟩:=q4 hb5;have Jb:w.heap.size<w5.heap.size:=by omega
  have af2:bt<w5.heap.size:=by omega
  clear hR5 Ug Uh hx5 hb5 hV
  by_cases hz:au l j [9]=0
  ·have HRR:Hid (F=PQ R A c d l i (.ok t j) w):=by show _=_;rw[bE];show PQ R A c d l i (if au l j [9]=0 then _ else _) w=_;rw[iP hz]
   rw[hz];clear hz;go_wp2_with fail;refine bR (Gg (ni HX5)) rfl ?_;rw[HRR];have h:=oq (.int .i64 t.op) (.int .i64 t.num) (.string t.name) (.slice A' n2 c') hij hjl fC OL (wH.trans HO5) HV5;unfold Tm.val at h;rw[←kU]at h;exact h
  ·have hzb:(au l j [9]==0)=false:=by simpa using hz
   have adu:=rO hz;have HRR:Hid (F=PQ R A c d l i ((P (j+1)).then fun u k=>.ok (dD 9 [t,u]) k) w):=by show _=_;rw[bE];show PQ R A c d l i (if au l j [9]=0 then _ else _) w=_;rw[iN hz]
   obtain⟨zz,hzz⟩:=aj (au l j [9]);rw[←hzz]at hzb⊢;have c1:=OL.c1;have f1:=OL.frozen 1;clear hz hzz;go_wp2_with fail;refine wp_region_any (by kernel_rfl) ?_
   change wpAny _ _ _ _ _ _ _ (World.drew _)
   obtain⟨W3,hW3⟩:=aj ((w5.setCell ⟨R,1,none⟩ (.int .i64 ((j:Int)+1))).drew);have hwn:yU R A l.length c d (j+1) w5 ((w5.setCell ⟨R,1,none⟩ (.int .i64 ((j:Int)+1))).drew):=zG (m:=1) (jf (m:=0) OL);rw[←hW3]at hwn⊢;have ho3:Only (fun q=>q=R) w5 W3:=hwn.2.1;have hs3:W3.heap.size=w5.heap.size:=hwn.2.2;have Ms:=wH.trans (HO5.trans ho3);have hcall:Calls Tryz.prog 145 #[.pointer (some ⟨R,0,none⟩)] W3 (PQ R A c d l (j+1) (P (j+1)) W3):=Am (j+1) W3 (by omega) hwn.1 (HP.only Ms) trivial;have hb3:=(ho3.block bt af2 hbr).trans pU;have Oh:=Hd ((ho3.block w.heap.size Jb (by omega)).trans HX5);have HB3:=Hd hb3;have HK3:Hid (aR (fun q=>w.heap.size<q) w5 W3):=aR.cO ho3 (by omega);obtain⟨r2,hr2⟩:=aj (P (j+1));have dJ:Hid (F=PQ R A c d l i (r2.then fun u k=>.ok (dD 9 [t,u]) k) w):=by show _=_;rw[HRR,hr2]
   rw[← hr2]at hcall;have Cx:=Lib.hid hcall;have Kn:=Lib.hid Ms;clear hW3 hwn ho3 Ms hcall hr2 hb3 c1 f1 zq v0 v1 v2 v3 y0 y1 y2 y3 xq;obtain⟨y0,y1,y2,y3,xq⟩:=q4 HB3;clear xq;refine wpAny_take (i:=1) (oi:={dst:=some 21,op:=Op.move (Operand.tmp 0),type:=182,pos := "ttext.go:245",after:=#[],guard:=none}) (v:=?_) rfl (by kernel_rfl) (by kernel_rfl) (by kernel_rfl) (fun _ _ _ h=>h) (Or.inl ⟨by rfl,?hy⟩) ?_
   case hy=>intro w0;go_simp;(first|done|with_reducible rfl)
   try simp only[Act.put,aT,aU,aV]
   cases r2 with
   |bad jb xb=>
    refine wpAny_ready (rs:=[0,2]) (by kernel_rfl) (by simp) ?_;refine AllReady.cons (o:={dst:=some 20,op:=Op.load 64 (Operand.tmp 3),type:=64,pos := "ttext.go:245",after:=#[],guard:=none}) rfl (fun K hK=>?_) ?_
    ·go_simp;refine hK _ _ ?_;clear hK K;(try simp only[Act.put,aT,aU,aV]);refine wpAny_ready (rs:=[2]) (by kernel_rfl) (by simp) ?_;refine AllReady.cons (o:={dst:=some 22,op:=Op.call {callee:=Callee.value (Operand.func 145),args:=#[Operand.tmp 21],argTypes:=#[182]},type:=64,pos := "ttext.go:245",after:=#[{on:=1,ground:=Ground.data}],guard:=none}) rfl (fun K hK=>?_) AllReady.nil;go_simp;(with_reducible refine(Cx.out).mono ?_);intro e w6 hq;obtain⟨rfl,iX⟩:=hq;refine(show _∧_ from⟨rfl,?_⟩);rw[dJ];exact⟨rfl,Kn.trans iX⟩
    ·refine AllReady.cons (o:={dst:=some 22,op:=Op.call {callee:=Callee.value (Operand.func 145),args:=#[Operand.tmp 21],argTypes:=#[182]},type:=64,pos := "ttext.go:245",after:=#[{on:=1,ground:=Ground.data}],guard:=none}) rfl (fun K hK=>?_) AllReady.nil;go_simp;(with_reducible refine(Cx.out).mono ?_);intro e w6 hq;obtain⟨rfl,iX⟩:=hq;refine(show _∧_ from⟨rfl,?_⟩);rw[dJ];exact⟨rfl,Kn.trans iX⟩
   |ok t2 j2=>
    refine wpAny_ready (rs:=[0,2]) (by kernel_rfl) (by simp) ?_;refine AllReady.cons (o:={dst:=some 20,op:=Op.load 64 (Operand.tmp 3),type:=64,pos := "ttext.go:245",after:=#[],guard:=none}) rfl (fun K hK=>?_) ?_
    ·go_simp;refine hK _ _ ?_;clear hK K;(try simp only[Act.put,aT,aU,aV]);refine wpAny_ready (rs:=[2]) (by kernel_rfl) (by simp) ?_;refine AllReady.cons (o:={dst:=some 22,op:=Op.call {callee:=Callee.value (Operand.func 145),args:=#[Operand.tmp 21],argTypes:=#[182]},type:=64,pos := "ttext.go:245",after:=#[{on:=1,ground:=Ground.data}],guard:=none}) rfl (fun K hK=>?_) AllReady.nil;go_simp;(with_reducible refine(Cx.out).mono ?_);intro e w6 hq;obtain⟨⟨A2,c2,rfl,hV2⟩,hij2,uH,uI,iX⟩:=hq;obtain⟨n3,AV⟩:=ak t2.kids.length;unfold Tm.val;rw[← AV];have Fy:=Lib.hid iX;have jm:=Lib.hid hV2;have o7:=Lib.hid uI;have hs6:=iX.size;have abJ:bt<w6.heap.size:=by omega
     have abN:w.heap.size<w6.heap.size:=by omega
     have hb6:=(iX.block bt (by omega) hbr).trans HB3;have Pq:=Lib.hid ((iX.block w.heap.size (by omega) (by omega)).trans Oh);clear hV2 uI iX y0 y1 y2 y3;obtain⟨y0,y1,y2,y3,xq⟩:=q4 hb6;clear xq hb6;obtain⟨v0,v1,v2,v3,zq⟩:=q4 Pq;refine hK _ _ ?_;clear hK K;(try simp only[Act.put,aT,aU,aV]);refine wpAny_ready (rs:=[3]) (by kernel_rfl) (by simp) ?_;refine AllReady.cons (o:={dst:=some 23,op:=Op.buildSlice 25 2 #[(0,Operand.tmp 20),(1,Operand.tmp 22)],type:=25,pos := "ttext.go:245",after:=#[{on:=0,ground:=Ground.data},{on:=2,ground:=Ground.data}],guard:=none}) rfl (fun K hK=>?_) AllReady.nil;go_simp;refine hK _ _ ?_;clear hK K;(try simp only[Act.put,aT,aU,aV]);refine wpAny_ready (rs:=[4]) (by kernel_rfl) (by simp) ?_;refine AllReady.cons (o:={dst:=some 24,op:=Op.build 64 #[(0,Operand.const (Value.int IntKind.i64 9)),(3,Operand.tmp 23)],type:=64,pos := "ttext.go:245",after:=#[{on:=3,ground:=Ground.data}],guard:=none}) rfl (fun K hK=>?_) AllReady.nil;go_simp;refine hK _ _ ?_;clear hK K;(try simp only[Act.put,aT,aU,aV]);refine wpAny_ready (rs:=[5]) (by kernel_rfl) (by simp) ?_
     refine AllReady.cons (o:={dst:=none,op:=Op.store 64 (Operand.tmp 2) (Operand.tmp 24),type:=0,pos := "ttext.go:245",after:=#[{on:=4,ground:=Ground.data},{on:=2,ground:=Ground.chain},{on:=0,ground:=Ground.phase},{on:=1,ground:=Ground.phase},{on:=2,ground:=Ground.phase},{on:=3,ground:=Ground.phase},{on:=4,ground:=Ground.phase}],guard:=none}) rfl (fun K hK=>?_) AllReady.nil;go_simp;refine hK _ _ ?_;clear hK K;(try simp only[Act.put,aT,aU,aV]);refine wpAny_done (by kernel_rfl) ?_ _;go_wp2_with fail;refine bodyPost_ret (Gg (sZ (ni Pq))) rfl ?_;rw[dJ,kU,AV];exact GZ 9 (by omega) uH fC o7 (Kn.trans Fy) (by omega) ((HV5.keep HK3 (fun q _ h=>h)).keep (aR.cO Fy (by omega)) (fun q _ h=>h)) (jm.keep aR.refl (fun q _ h=>by omega))
    ·refine AllReady.cons (o:={dst:=some 22,op:=Op.call {callee:=Callee.value (Operand.func 145),args:=#[Operand.tmp 21],argTypes:=#[182]},type:=64,pos := "ttext.go:245",after:=#[{on:=1,ground:=Ground.data}],guard:=none}) rfl (fun K hK=>?_) AllReady.nil;go_simp;(with_reducible refine(Cx.out).mono ?_);intro e w6 hq;obtain⟨⟨A2,c2,rfl,hV2⟩,hij2,uH,uI,iX⟩:=hq;obtain⟨n3,AV⟩:=ak t2.kids.length;unfold Tm.val;rw[← AV];have Fy:=Lib.hid iX;have jm:=Lib.hid hV2;have o7:=Lib.hid uI;have hs6:=iX.size;have abJ:bt<w6.heap.size:=by omega
     have abN:w.heap.size<w6.heap.size:=by omega
     have hb6:=(iX.block bt (by omega) hbr).trans HB3;have Pq:=Lib.hid ((iX.block w.heap.size (by omega) (by omega)).trans Oh);clear hV2 uI iX y0 y1 y2 y3;obtain⟨y0,y1,y2,y3,xq⟩:=q4 hb6;clear xq hb6;obtain⟨v0,v1,v2,v3,zq⟩:=q4 Pq;refine hK _ _ ?_;clear hK K;(try simp only[Act.put,aT,aU,aV]);refine wpAny_ready (rs:=[0]) (by kernel_rfl) (by simp) ?_;refine AllReady.cons (o:={dst:=some 20,op:=Op.load 64 (Operand.tmp 3),type:=64,pos := "ttext.go:245",after:=#[],guard:=none}) rfl (fun K hK=>?_) AllReady.nil;go_simp;refine hK _ _ ?_;clear hK K;(try simp only[Act.put,aT,aU,aV]);refine wpAny_ready (rs:=[3]) (by kernel_rfl) (by simp) ?_;refine AllReady.cons (o:={dst:=some 23,op:=Op.buildSlice 25 2 #[(0,Operand.tmp 20),(1,Operand.tmp 22)],type:=25,pos := "ttext.go:245",after:=#[{on:=0,ground:=Ground.data},{on:=2,ground:=Ground.data}],guard:=none}) rfl (fun K hK=>?_) AllReady.nil;go_simp;refine hK _ _ ?_;clear hK K;(try simp only[Act.put,aT,aU,aV]);refine wpAny_ready (rs:=[4]) (by kernel_rfl) (by simp) ?_;refine AllReady.cons (o:={dst:=some 24,op:=Op.build 64 #[(0,Operand.const (Value.int IntKind.i64 9)),(3,Operand.tmp 23)],type:=64,pos := "ttext.go:245",after:=#[{on:=3,ground:=Ground.data}],guard:=none}) rfl (fun K hK=>?_) AllReady.nil;go_simp;refine hK _ _ ?_;clear hK K;(try simp only[Act.put,aT,aU,aV]);refine wpAny_ready (rs:=[5]) (by kernel_rfl) (by simp) ?_
     refine AllReady.cons (o:={dst:=none,op:=Op.store 64 (Operand.tmp 2) (Operand.tmp 24),type:=0,pos := "ttext.go:245",after:=#[{on:=4,ground:=Ground.data},{on:=2,ground:=Ground.chain},{on:=0,ground:=Ground.phase},{on:=1,ground:=Ground.phase},{on:=2,ground:=Ground.phase},{on:=3,ground:=Ground.phase},{on:=4,ground:=Ground.phase}],guard:=none}) rfl (fun K hK=>?_) AllReady.nil;go_simp;refine hK _ _ ?_;clear hK K;(try simp only[Act.put,aT,aU,aV]);refine wpAny_done (by kernel_rfl) ?_ _;go_wp2_with fail;refine bodyPost_ret (Gg (sZ (ni Pq))) rfl ?_;rw[dJ,kU,AV];exact GZ 9 (by omega) uH fC o7 (Kn.trans Fy) (by omega) ((HV5.keep HK3 (fun q _ h=>h)).keep (aR.cO Fy (by omega)) (fun q _ h=>h)) (jm.keep aR.refl (fun q _ h=>by omega))
abbrev Xd:=@q4
theorem JW{W:World}{b q:Nat}{v0 v1 v2 v3:Value}(h:q≠b):((((W.setCell ⟨b,0,none⟩ v0).setCell ⟨b,1,none⟩ v1).setCell ⟨b,2,none⟩ v2).setCell ⟨b,3,none⟩ v3).heap[q]?=W.heap[q]?:=by
 rw[iw _ ⟨b,3,none⟩ q _ h,iw _ ⟨b,2,none⟩ q _ h,iw _ ⟨b,1,none⟩ q _ h,iw _ ⟨b,0,none⟩ q _ h]
theorem vV.block{R rb:Nat}{w w':World}(h:vV R rb w)(hb:w'.heap[rb]?=w.heap[rb]?)(hs:w.heap.size≤w'.heap.size):vV R rb w':=⟨by rw[World.cell?_of_block (a:=⟨rb,0,none⟩) hb];exact h.1,lL h.2.1 hs,h.2.2⟩
theorem adC(R:Nat)(A:Option Addr)(c d:Nat)(l:List Tok)(P PI:jN)(hd:d≤256)(hF:KR R A c d l 173 (.pointer (some ⟨R,0,none⟩)) (fun _=>True) P)(hI:d<256→KR R A c (d+1) l 145 (.pointer (some ⟨R,0,none⟩)) (fun _=>True) PI) :
 KR R A c d l 145 (.pointer (some ⟨R,0,none⟩)) (fun _=>True) (Gn l (if d=256 then none else some PI) (many l 7 (many l 6 P))):=by
 intro i w hi hR hP hw;have hlen:=hP.len;have Og:=hR.lt;obtain⟨wb,hwb⟩:=aj (w.alloc (.cells #[.pointer (some ⟨R,0,none⟩)] 182));have hbb:=dz hwb;have hsb:wb.heap.size=w.heap.size+1:=by rw[hwb];simp
 have hob:Only (fun q=>q=R) w wb:=Ob hbb;have hRb:iZ wb R A l.length c i d:=hR.below hbb Og;have fC:=hRb.lt;have hPb:=hP.only hob;obtain⟨rb,hrb⟩:=aj w.heap.size;have G5:vV R rb wb:=⟨by rw[hwb,hrb];exact(cR _ _ 0 _ _ (0,0) (eu w _)).trans rfl,by omega,by omega⟩;have aja:rb<wb.heap.size:=G5.2.1;have ahA:rb≠R:=G5.2.2;obtain⟨w1,hw1⟩:=aj (wb.alloc (.cells #[.int .i64 0,.int .i64 0,.string ⟨#[]⟩,.slice none 0 0] 64));have hb1:=dz hw1;have hs1:w1.heap.size=wb.heap.size+1:=by rw[hw1];simp
 have hbx:w1.heap[wb.heap.size]?=some (.cells #[.int .i64 0,.int .i64 0,.string ⟨#[]⟩,.slice none 0 0] 64 (0,0)):=by rw[hw1];exact eu wb _
 have ho1:Only (fun q=>q=R) wb w1:=Ob hb1;have adD:=G5.only ho1;have k0:=G5.1;have k0':=adD.1;rw[hrb]at k0 k0'
 have hc1:Calls Tryz.prog 171 #[.pointer (some ⟨R,0,none⟩),.int .i64 7,.func (.func 172) #[] #[.pointer (some ⟨rb,0,none⟩)]] w1 (PQ R A c d l i (many l 7 (many l 6 P) i) w1):=
  Pt R A c d l 172 (.pointer (some ⟨rb,0,none⟩)) false (vV R rb) (many l 6 P) 7 i w1 (fun _ _=>by kernel_rfl) (fun _ _ h ho=>h.only ho) (abL R A c d l rb P hF) hi (hRb.below hb1 fC) (hPb.only ho1) adD
 obtain⟨r1,hr1⟩:=aj (many l 7 (many l 6 P) i);obtain⟨F0,Uk⟩:=aj (PQ R A c d l i (Gn l (if d=256 then none else some PI) (many l 7 (many l 6 P)) i) w);obtain⟨F,vU⟩:=aj (PQ R A c d l i (Gn l (if d=256 then none else some PI) (many l 7 (many l 6 P)) i) wb);have IK:Hid (∀e w',F e w'→F0 e w'):=fun e w' h=>by rw[vU]at h;rw[Uk];exact h.back hob
 have bE:Hid (F=PQ R A c d l i (r1.then fun t j=>if au l j [8]=0 then .ok t j else(if d=256 then .bad j 17 else PI (j+1)).then fun u k=>.ok (dD 8 [t,u]) k) wb):=by
  show _=_;rw[vU,hr1]
  by_cases h:d=256
  ·simp only[h,if_true];rfl
  ·simp only[h,if_false];rfl
 rw[←Uk];rw[←hr1]at hc1;have HIN:=Hd (fun(W:World)(j:Nat)(hj:j<l.length)(hRW:iZ W R A l.length c j d)(qx:iI W R A c l)=>Cu R A c d l 145 (.pointer (some ⟨R,0,none⟩)) true (fun _=>True) PI j W (fun _ _=>by kernel_rfl) (fun _ _ _ _=>trivial) hI hd hj hRW qx trivial);have HC1:=Hd hc1;have jy:=Hd hwb;have p9:=Hd hsb;have VW:=Hd hrb;have HW1:=Hd hw1;have wH:=Hd ho1;have qH:=Hd hbx;have HP:=Hd hPb;have HB0:=Hd G5;clear hc1 hr1 vU Uk hw1 hb1 ho1 hbx hF hP hPb hw hR hRb hbb hob G5 adD hI hwb hsb hrb;go_in;go_wp2_with fail;rw[←jy,←HW1,←p9,←VW];clear k0 k0';have hbk:∀e w',F e w'→F0 e w':=IK;refine HC1.mono ?_;intro e w4 hq
 cases r1 with
 |bad j x=>
  obtain⟨rfl,iC⟩:=hq;refine(show _∧_ from⟨rfl,?_⟩);refine IK _ _ ?_;rw[bE];exact⟨rfl,wH.trans iC⟩
 |ok t j=>
  obtain⟨⟨A',c',rfl,hV⟩,hij,hjl,vD,iC⟩:=hq;have hs4:=iC.size;clear hbk;have hb4:=(HB0.only wH).only iC;have q4:=hb4.1;have q4l:=hb4.2.1;obtain⟨n2,hn2⟩:=aj t.kids.length;unfold Tm.val;rw[←hn2];obtain⟨bt,hbt⟩:=aj w4.heap.size;obtain⟨wt,hwt⟩:=aj (w4.alloc (.cells #[.int .i64 t.op,.int .i64 t.num,.string t.name,.slice A' n2 c'] 64));have xX:=dz hwt;have hst:wt.heap.size=bt+1:=by rw[hwt,hbt];simp
  have vF:wt.heap[bt]?=some (.cells #[.int .i64 t.op,.int .i64 t.num,.string t.name,.slice A' n2 c'] 64 (0,0)):=by rw[hwt,hbt];exact eu w4 _
  obtain⟨wo,hwo⟩:=aj (wt.alloc (.cells #[.int .i64 8] 3));have Uj:=dz hwo;have hso:wo.heap.size=bt+2:=by rw[hwo];simp[hst]
  have hOO:Only (fun q=>q=R) w1 wo:=iC.trans ((Ob xX).trans (Ob Uj));have hRO:iZ wo R A l.length c j d:=(vD.below xX (by omega)).below Uj (by omega);have JV:=(Uj.block bt (by omega)).trans vF
  have hsg:Calls Tryz.prog 146 #[.pointer (some ⟨R,0,none⟩),.slice (some ⟨wt.heap.size,0,none⟩) 1 1] wo fun e w'=>e=.returned (.int .i64 (au l j [8]))∧∃n,w'=wo.drewN n:=
   zR R A c j d l wt.heap.size 1 [8] wo hRO (HP.only (wH.trans hOO)) (by omega) (by rw[hwo];exact tY wt [8]) (by simp) (by omega)
  rw[hst]at hsg;have HK:Hid (aR (fun q=>w1.heap.size≤q) w4 wo):=(Kb xX).trans (Kb Uj);have qj:=Hd hsg;have HBo:=Hd ((HB0.only wH).only hOO);have qt:wt.cell? ⟨rb,0,none⟩=_:=((HB0.only wH).only (iC.trans (Ob xX))).1;clear hb4;have HWT:=Hd hwt;have HWO:=Hd hwo;have oW:=Hd hbt;have kU:=Hd hn2;clear hn2 hwt hwo xX Uj vF hsg;go_wp2_with fail;rw[←oW,←HWT,←HWO];refine qj.mono ?_;rintro e w5 ⟨rfl,q,gH⟩;have aki:Hid (vV R rb w5):=by show vV R rb w5;rw[gH];exact HBo
  have Ug:Only (fun q=>q=R) w1 w5:=by rw[gH];exact hOO.drewN q
  have hR5:iZ w5 R A l.length c j d:=by rw[gH];exact hRO.drewN q
  have hb5:w5.heap[bt]?=some (.cells #[.int .i64 t.op,.int .i64 t.num,.string t.name,.slice A' n2 c'] 64 (0,0)):=by rw[gH];exact JV
  have hs5:w5.heap.size=bt+2:=by rw[gH];exact hso
  have ai_:w1.heap.size≤bt:=by rw[hbt];exact hs4
  have hbr:bt≠R:=by omega
  have hx5:=(Ug.block wb.heap.size (by omega) (by omega)).trans qH;have hk5:aR (fun q=>w1.heap.size≤q) w4 w5:=by rw[gH];exact⟨by show w4.heap.size≤wo.heap.size;omega,fun q hq hl=>HK.block q hq hl⟩
  have Uh:aD (fun q=>wb.heap.size<q) w5 A' c' t:=hV.keep hk5 (fun q _ h=>by omega);clear hk5 hbt gH hso hOO hRO JV vD;have OL:=Hd hR5;have HO5:=Hd Ug;have HV5:=Hd Uh;have HX5:=Hd hx5;have pU:=Hd hb5;obtain⟨v0,v1,v2,v3,zq⟩:=Xd hx5;obtain⟨y0,y1,y2,y3,xq⟩:=Xd hb5;have Jb:wb.heap.size<w5.heap.size:=by omega
  have af2:bt<w5.heap.size:=by omega
  clear hR5 Ug Uh hx5 hb5 hV
  by_cases hz:au l j [8]=0
  ·have HRR:Hid (F=PQ R A c d l i (.ok t j) wb):=by show _=_;rw[bE];show PQ R A c d l i (if au l j [8]=0 then _ else _) wb=_;rw[iP hz]
   rw[hz];clear hz;go_wp2_with fail;refine bR (Gg (ni HX5)) rfl ?_;refine IK _ _ ?_;rw[HRR];have h:=oq (.int .i64 t.op) (.int .i64 t.num) (.string t.name) (.slice A' n2 c') hij hjl fC OL (wH.trans HO5) HV5;unfold Tm.val at h;rw[←kU]at h;exact h
  ·have hzb:(au l j [8]==0)=false:=by simpa using hz
   have adu:=rO hz;have HRR:Hid (F=PQ R A c d l i ((if d=256 then .bad j 17 else PI (j+1)).then fun u k=>.ok (dD 8 [t,u]) k) wb):=by show _=_;rw[bE];show PQ R A c d l i (if au l j [8]=0 then _ else _) wb=_;rw[iN hz]
   obtain⟨zz,hzz⟩:=aj (au l j [8]);rw[←hzz]at hzb⊢;have c1:=OL.c1;have f1:=OL.frozen 1;clear hz hzz;go_wp2_with fail;refine wp_region_held_drew (S:=fun w'=>w'.heap[bt]?=some (.cells #[.int .i64 t.op,.int .i64 t.num,.string t.name,.slice A' n2 c'] 64 (0,0))∧vV R rb w') (by kernel_rfl) ⟨pU,aki⟩ (fun hHeld=>?_);obtain⟨W3,hW3⟩:=aj w5.drew;rw[←hW3]at hHeld⊢;have VU:iZ W3 R A l.length c j d:=by rw[hW3];exact OL
   have ho3:Only (fun q=>q=R) w5 W3:=by rw[hW3];exact(Only.refl (F:=fun q=>q=R)).drewN 1
   have hs3:W3.heap.size=w5.heap.size:=by rw[hW3];rfl
   have Ms:=wH.trans (HO5.trans ho3);have hcall:Calls Tryz.prog 174 #[.pointer (some ⟨R,0,none⟩),.func (.func 145) #[.pointer (some ⟨R,0,none⟩)] #[]] W3 (PQ R A c d l j (if d=256 then .bad j 17 else PI (j+1)) W3):=HIN W3 j adu VU (HP.only Ms);have Oh:=Hd ((ho3.block wb.heap.size Jb (by omega)).trans HX5);have HK3:Hid (aR (fun q=>wb.heap.size<q) w5 W3):=aR.cO ho3 (by omega);obtain⟨r2,hr2⟩:=aj ((if d=256 then .bad j 17 else PI (j+1)));have dJ:Hid (F=PQ R A c d l i (r2.then fun u k=>.ok (dD 8 [t,u]) k) wb):=by show _=_;rw[HRR,hr2]
   rw[←hr2]at hcall;have Cx:=Hd hcall;have Kn:=Hd Ms;clear hW3 VU ho3 Ms hcall hr2 c1 f1 zq v0 v1 v2 v3 y0 y1 y2 y3 xq;refine gJ 0 (v:=?_) rfl (Or.inl ⟨by rfl,?hy⟩) (by assumption) ?_
   case hy=>
    intro w0 hSw;have e0:=(kr hSw.1).1.1;have e1:=(kr hSw.1).2.1.1;have e2:=(kr hSw.1).2.2.1.1;have e3:=(kr hSw.1).2.2.2.1;have e4:=hSw.2.1;clear hSw;go_simp
    (first|done|with_reducible rfl)
   (try simp only[Act.put,aT,aU,aV]);refine gJ 1 (v:=?_) rfl (Or.inl ⟨by rfl,?hy⟩) (by assumption) ?_
   case hy=>
    intro w0 hSw;have e0:=(kr hSw.1).1.1;have e1:=(kr hSw.1).2.1.1;have e2:=(kr hSw.1).2.2.1.1;have e3:=(kr hSw.1).2.2.2.1;have e4:=hSw.2.1;clear hSw;go_simp
    (first|done|with_reducible rfl)
   (try simp only[Act.put,aT,aU,aV]);refine gJ 2 (v:=?_) rfl (Or.inl ⟨by rfl,?hy⟩) (by assumption) ?_
   case hy=>
    intro w0 hSw;have e0:=(kr hSw.1).1.1;have e1:=(kr hSw.1).2.1.1;have e2:=(kr hSw.1).2.2.1.1;have e3:=(kr hSw.1).2.2.2.1;have e4:=hSw.2.1;clear hSw;go_simp
    (first|done|with_reducible rfl)
   (try simp only[Act.put,aT,aU,aV]);refine gJ 3 (v:=?_) rfl (Or.inl ⟨by rfl,?hy⟩) (by assumption) ?_
   case hy=>
    intro w0 hSw;have e0:=(kr hSw.1).1.1;have e1:=(kr hSw.1).2.1.1;have e2:=(kr hSw.1).2.2.1.1;have e3:=(kr hSw.1).2.2.2.1;have e4:=hSw.2.1;clear hSw;go_simp
    (first|done|with_reducible rfl)
   try simp only[Act.put,aT,aU,aV]
   cases r2 with
   |bad jb xb=>
    refine Rd (rs:=[4]) (by kernel_rfl) (by simp) ?_;refine Rc rfl (fun K hK=>?_) Rn;go_simp;(with_reducible refine(Cx.out).mono ?_);intro e w6 hq;obtain⟨rfl,iX⟩:=hq;refine(show _∧_ from⟨rfl,?_⟩);refine IK _ _ ?_;rw[dJ];exact⟨rfl,Kn.trans iX⟩
   |ok t2 j2=>
    refine Rd (rs:=[4]) (by kernel_rfl) (by simp) ?_;refine Rc rfl (fun K hK=>?_) Rn;go_simp;(with_reducible refine(Cx.out).mono ?_);intro e w6 hq;obtain⟨⟨A2,c2,rfl,hV2⟩,hij2,uH,uI,iX⟩:=hq;obtain⟨n3,AV⟩:=ak t2.kids.length;unfold Tm.val;rw[←AV];have Fy:=Hd iX;have jm:=Hd hV2;have o7:=Hd uI;have hs6:=iX.size;have abJ:bt<w6.heap.size:=by omega
    have abN:wb.heap.size<w6.heap.size:=by omega
    have Pq:=Hd ((iX.block wb.heap.size (by omega) (by omega)).trans Oh);have HH6:Hid (w6.heap[bt]?=some (.cells #[.int .i64 t.op,.int .i64 t.num,.string t.name,.slice A' n2 c'] 64 (0,0))∧vV R rb w6):=⟨(iX.block bt (by omega) hbr).trans hHeld.1,hHeld.2.only iX⟩;clear hV2 uI iX hHeld;obtain⟨v0,v1,v2,v3,zq⟩:=Xd Pq;refine hK.out _ _ (HH6) (fun hHeld=>?_);clear hK K;(try simp only[Act.put,aT,aU,aV]);refine Rd (rs:=[5]) (by kernel_rfl) (by simp) ?_;refine Rc rfl (fun K hK=>?_) Rn;go_simp;refine hK.out _ _ (⟨aK HH6.1,HH6.2.only (Ob ((Br _ _).alloc (lr _) _))⟩) (fun hHeld=>?_);clear hK K;(try simp only[Act.put,aT,aU,aV]);refine Rd (rs:=[6]) (by kernel_rfl) (by simp) ?_;refine Rc rfl (fun K hK=>?_) Rn;go_simp;refine hK.out _ _ (⟨aK HH6.1,HH6.2.only (Ob ((Br _ _).alloc (lr _) _))⟩) (fun hHeld=>?_);clear hK K;(try simp only[Act.put,aT,aU,aV]);refine Rd (rs:=[7]) (by kernel_rfl) (by simp) ?_;refine Rc rfl (fun K hK=>?_) Rn;go_simp;refine hK.out _ _ (⟨aK ((JW (by omega)).trans HH6.1),(HH6.2.block (JW (by omega)) (by simp)).only (Ob ((Br _ _).alloc (lr _) _))⟩) (fun hHeld=>?_);clear hK K;(try simp only[Act.put,aT,aU,aV]);refine wpAnyH_done (by kernel_rfl) ?_ _;clear hHeld
    go_wp2_with fail;refine bR (Gg (aK (ni Pq))) rfl ?_;refine IK _ _ ?_;rw[dJ,kU,AV];exact GZ 8 (by omega) uH fC o7 (Kn.trans Fy) (by omega) ((HV5.keep HK3 (fun q _ h=>h)).keep (aR.cO Fy (by omega)) (fun q _ h=>h)) (jm.keep Kr (fun q _ h=>by omega))
end Go.Proofs.YtkhoeoilamddaaaGreatDoor
