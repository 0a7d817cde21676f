/- Walks and plain words: PrsF PrsG PrsH PrsI. -/
import Derived.Test.YtkhoeoilamddaaaGreatDoorQPrsD
namespace Go.Proofs.YtkhoeoilamddaaaGreatDoor
open Go.RowKit
set_option linter.unusedVariables false
set_option maxRecDepth 100000
set_option maxHeartbeats 8000000
def vV(R rb:Nat)(w:World):Prop:=w.cell? ⟨rb,0,none⟩=some (.pointer (some ⟨R,0,none⟩))∧rb<w.heap.size∧rb≠R
theorem vV.only{R G:Nat}{w w':World}(h:vV R G w)(D:Only (fun q=>q=R) w w'):vV R G w':=⟨by rw[D.cell h.2.1 h.2.2];exact h.1,lL h.2.1 D.size,h.2.2⟩
theorem abK(R:Nat)(A:Option Addr)(c d:Nat)(l:List Tok)(rb:Nat)(P:jN)(hF:KR R A c d l 204 (.pointer (some ⟨R,0,none⟩)) (fun _=>True) P) :
 KR R A c d l 203 (.pointer (some ⟨rb,0,none⟩)) (vV R rb) (left l P [16,17]):=by
 intro i w hi hR hP hw;have fC:=hR.lt;obtain⟨w1,hw1⟩:=aj (w.alloc (.cells #[.int .i64 0,.int .i64 0,.string ⟨#[]⟩,.slice none 0 0] 64));have hb1:=dz hw1;have ay:w1.heap.size=w.heap.size+1:=by rw[hw1];simp
 have ag:w1.heap[w.heap.size]?=some (.cells #[.int .i64 0,.int .i64 0,.string ⟨#[]⟩,.slice none 0 0] 64 (0,0)):=by rw[hw1];exact eu w _
 have aa:Only (fun q=>q=R) w w1:=Ob hb1;have k0:=hw.1;have aF:=(hw.only aa).1;have aJ:=hw.2.1;obtain⟨w2,I⟩:=aj (w1.alloc (.cells #[.int .i64 16,.int .i64 17] 3));have J:=dz I;have az:w2.heap.size=w1.heap.size+1:=by rw[I];simp
 have ab:Only (fun q=>q=R) w w2:=aa.trans (Ob J);have af:iZ w2 R A l.length c i d:=(hR.below hb1 fC).below J (by omega);have O:uF w2 w1.heap.size [16,17]:=by rw[I];exact tY w1 [16,17]
 have D:Calls Tryz.prog 202 #[.pointer (some ⟨R,0,none⟩),.func (.func 204) #[.pointer (some ⟨R,0,none⟩)] #[],.slice (some ⟨w1.heap.size,0,none⟩) 2 2] w2 (PQ R A c d l i (left l P [16,17] i) w2):=Pv R A c d l 204 (.pointer (some ⟨R,0,none⟩)) true (fun _=>True) P w1.heap.size 2 [16,17] i w2 (fun _ _=>by kernel_rfl) (fun _ _ _ _=>trivial) hF hi af (hP.only ab) trivial O (by decide) (by omega) (by omega);rw[ay]at D;have ae:=(J.block w.heap.size (by omega)).trans ag;obtain⟨r,hr⟩:=aj (left l P [16,17] i);obtain⟨F,vU⟩:=aj (PQ R A c d l i (left l P [16,17] i) w);have bE:Hid (F=PQ R A c d l i r w):=by show _=_;rw[vU,hr]
 rw[←vU];rw[←hr]at D;have HC:=Hd D;have ar:=Hd hw1;have av:=Hd I;have Ah:=Hd ab;have aw:=Hd ae;clear D hr vU hw1 I hb1 J aa ab ag ae hF hP hw hR O af;go_in;go_wp2_with fail;rw[←ar];go_wp2_with fail;rw[←av];refine HC.mono ?_;intro e w4 hq
 cases r with
 |bad j x=>
  obtain⟨rfl,iC⟩:=hq;refine(show _∧_ from⟨rfl,?_⟩);rw[bE];exact⟨rfl,Ah.trans iC⟩
 |ok t j=>
  obtain⟨⟨A',c',rfl,hV⟩,ai,ax,vD,iC⟩:=hq;have Y:=(iC.block w.heap.size (by omega) (by omega)).trans aw;have aE:=iC.size;obtain⟨n2,ao⟩:=aj t.kids.length;have G:=fun v0 v1 v2 v3=>oq v0 v1 v2 v3 ai ax fC vD (Ah.trans iC) (hV.keep Kr (fun q _ h=>by omega));unfold Tm.val at G⊢;rw[←ao]at G⊢;have Cn:=Hd G;have kH:=Hd Y;obtain⟨v0,v1,v2,v3,zq⟩:=q4 Y;clear hV vD iC ao ai G Y;go_wp2_with fail;refine bR (Gg (ni kH)) rfl ?_;rw[bE];exact Cn _ _ _ _
theorem abL(R:Nat)(A:Option Addr)(c d:Nat)(l:List Tok)(rb:Nat)(P:jN)(hF:KR R A c d l 173 (.pointer (some ⟨R,0,none⟩)) (fun _=>True) P) :
 KR R A c d l 172 (.pointer (some ⟨rb,0,none⟩)) (vV R rb) (many l 6 P):=by
 intro i w hi hR hP hw;have fC:=hR.lt;obtain⟨w1,hw1⟩:=aj (w.alloc (.cells #[.int .i64 0,.int .i64 0,.string ⟨#[]⟩,.slice none 0 0] 64));have hb1:=dz hw1;have ai:w1.heap.size=w.heap.size+1:=by rw[hw1];simp
 have Y:w1.heap[w.heap.size]?=some (.cells #[.int .i64 0,.int .i64 0,.string ⟨#[]⟩,.slice none 0 0] 64 (0,0)):=by rw[hw1];exact eu w _
 have I:Only (fun q=>q=R) w w1:=Ob hb1;have k0:=hw.1;have ar:=(hw.only I).1;have av:=hw.2.1;have sQ:iZ w1 R A l.length c i d:=hR.below hb1 fC;have D:Calls Tryz.prog 171 #[.pointer (some ⟨R,0,none⟩),.int .i64 6,.func (.func 173) #[.pointer (some ⟨R,0,none⟩)] #[]] w1 (PQ R A c d l i (many l 6 P i) w1):=Pt R A c d l 173 (.pointer (some ⟨R,0,none⟩)) true (fun _=>True) P 6 i w1 (fun _ _=>by kernel_rfl) (fun _ _ _ _=>trivial) hF hi sQ (hP.only I) trivial;obtain⟨r,hr⟩:=aj (many l 6 P i);obtain⟨F,vU⟩:=aj (PQ R A c d l i (many l 6 P i) w);have bE:Hid (F=PQ R A c d l i r w):=by show _=_;rw[vU,hr]
 rw[←vU];rw[←hr]at D;have HC:=Hd D;have ae:=Hd hw1;have wH:=Hd I;have af:=Hd Y;clear D hr vU hw1 hb1 I Y hF hP hw hR sQ;go_in;go_wp2_with fail;rw[←ae];refine HC.mono ?_;intro e w4 hq
 cases r with
 |bad j x=>
  obtain⟨rfl,O⟩:=hq;refine(show _∧_ from⟨rfl,?_⟩);rw[bE];exact⟨rfl,wH.trans O⟩
 |ok t j=>
  obtain⟨⟨A',c',rfl,hV⟩,aa,ag,vD,O⟩:=hq;have J:=(O.block w.heap.size (by omega) (by omega)).trans af;have ao:=O.size;obtain⟨n2,ab⟩:=aj t.kids.length;have G:=fun v0 v1 v2 v3=>oq v0 v1 v2 v3 aa ag fC vD (wH.trans O) (hV.keep Kr (fun q _ h=>by omega));unfold Tm.val at G⊢;rw[←ab]at G⊢;have Cn:=Hd G;have kH:=Hd J;obtain⟨v0,v1,v2,v3,zq⟩:=q4 J;clear hV vD O ab aa G J;go_wp2_with fail;refine bR (Gg (ni kH)) rfl ?_;rw[bE];exact Cn _ _ _ _
theorem PQ.back{R c d i:Nat}{A:Option Addr}{l:List Tok}{r:Rs Tm}{w wb w':World}{e:Ending}(h:PQ R A c d l i r wb e w')(D:Only (fun q=>q=R) w wb):PQ R A c d l i r w e w':=by
 have hs:=D.size
 cases r with
 |bad j x=>exact⟨h.1,D.trans h.2⟩
 |ok t j=>
  obtain⟨⟨A',c',he,I⟩,h1,h2,h3,G⟩:=h;exact⟨⟨A',c',he,I.keep Kr (fun q _ hq=>Nat.le_trans hs hq)⟩,h1,h2,h3,D.trans G⟩
theorem adB(R:Nat)(A:Option Addr)(c d:Nat)(l:List Tok)(P:jN)(hF:KR R A c d l 204 (.pointer (some ⟨R,0,none⟩)) (fun _=>True) P) :
 KR R A c d l 192 (.pointer (some ⟨R,0,none⟩)) (fun _=>True) (left l (left l P [16,17]) [14,15]):=by
 intro i w hi hR hP hw;have fC:=hR.lt;obtain⟨wb,J⟩:=aj (w.alloc (.cells #[.pointer (some ⟨R,0,none⟩)] 182));have ae:=dz J;have aE:wb.heap.size=w.heap.size+1:=by rw[J];simp
 have ag:Only (fun q=>q=R) w wb:=Ob ae;have av:iZ wb R A l.length c i d:=hR.below ae fC;have vF:vV R w.heap.size wb:=⟨by rw[J];exact(cR _ _ 0 _ _ (0,0) (eu w _)).trans rfl,by omega,by omega⟩;obtain⟨w1,hw1⟩:=aj (wb.alloc (.cells #[.int .i64 0,.int .i64 0,.string ⟨#[]⟩,.slice none 0 0] 64));have hb1:=dz hw1;have az:w1.heap.size=w.heap.size+1+1:=by rw[hw1];simp[aE]
 have aw:w1.heap[wb.heap.size]?=some (.cells #[.int .i64 0,.int .i64 0,.string ⟨#[]⟩,.slice none 0 0] 64 (0,0)):=by rw[hw1];exact eu wb _
 have af:Only (fun q=>q=R) wb w1:=Ob hb1;obtain⟨w2,I⟩:=aj (w1.alloc (.cells #[.int .i64 14,.int .i64 15] 3));have O:=dz I;have aS:w2.heap.size=w.heap.size+3:=by rw[I];simp[az]
 have ab:Only (fun q=>q=R) wb w2:=af.trans (Ob O);have ar:iZ w2 R A l.length c i d:=(av.below hb1 (by omega)).below O (by omega);have aa:uF w2 w1.heap.size [14,15]:=by rw[I];exact tY w1 [14,15]
 have k0:=vF.1;have a7:=(vF.only af).1
 have D:Calls Tryz.prog 202 #[.pointer (some ⟨R,0,none⟩),.func (.func 203) #[] #[.pointer (some ⟨w.heap.size,0,none⟩)],.slice (some ⟨w1.heap.size,0,none⟩) 2 2] w2 (PQ R A c d l i (left l (left l P [16,17]) [14,15] i) w2):=
  Pv R A c d l 203 (.pointer (some ⟨w.heap.size,0,none⟩)) false (vV R w.heap.size) (left l P [16,17]) w1.heap.size 2 [14,15] i w2 (fun _ _=>by kernel_rfl) (fun _ _ h ho=>h.only ho) (abK R A c d l w.heap.size P hF) hi ar (hP.only (ag.trans ab)) (vF.only ab) aa (by decide) (by omega) (by omega)
 rw[az]at D;have ao:=(O.block wb.heap.size (by omega)).trans aw;obtain⟨r,hr⟩:=aj (left l (left l P [16,17]) [14,15] i);obtain⟨F,vU⟩:=aj (PQ R A c d l i (left l (left l P [16,17]) [14,15] i) w);have bE:Hid (F=PQ R A c d l i r w):=by show _=_;rw[vU,hr]
 rw[←vU];rw[←hr]at D;have HC:=Hd D;have jy:=Hd J;have p9:=Hd aE;have ai:=Hd ag;have aF:=Hd hw1;have aJ:=Hd I;have Ah:=Hd ab;have aP:=Hd ao;clear D hr vU J ae ag av vF hw1 I hb1 O af ab aw ao hF hP hw hR aa ar;go_in;go_wp2_with fail;rw[←jy,←aF,←aJ];refine HC.mono ?_;intro e w4 hq
 cases r with
 |bad j x=>
  obtain⟨rfl,iC⟩:=hq;refine(show _∧_ from⟨rfl,?_⟩);rw[bE];exact⟨rfl,ai.trans (Ah.trans iC)⟩
 |ok t j=>
  obtain⟨⟨A',c',rfl,hV⟩,ax,aQ,vD,iC⟩:=hq;have Y:=(iC.block wb.heap.size (by omega) (by omega)).trans aP;have a6:=iC.size;obtain⟨n2,ay⟩:=aj t.kids.length;have G:=fun v0 v1 v2 v3=>PQ.back (oq v0 v1 v2 v3 ax aQ (by omega) vD (Ah.trans iC) (hV.keep Kr (fun q _ h=>by omega))) ai;unfold Tm.val at G⊢;rw[←ay]at G⊢;rw[p9]at G Y;have Cn:=Hd G;have kH:=Hd Y;obtain⟨v0,v1,v2,v3,zq⟩:=q4 Y;clear hV vD iC ay ax G Y;go_wp2_with fail;refine bR (Gg (ni kH)) rfl ?_;rw[bE];exact Cn _ _ _ _
set_option linter.unusedSimpArgs false
theorem GZ{R c d i j:Nat}{A A' I:Option Addr}{c' c2:Nat}{l:List Tok}{w D:World}{t t2:Tm}(op:Int)(af:i<j)(ag:j≤l.length)(Og:R<w.heap.size)(hR:iZ D R A l.length c j d)(hO:Only (fun q=>q=R) w D)(hs:w.heap.size<D.heap.size)(hV:aD (fun q=>w.heap.size<q) D A' c' t)(ae:aD (fun q=>w.heap.size<q) D I c2 t2) :
 PQ R A c d l i (.ok (dD op [t,t2]) j) w (.returned (.agg #[.int .i64 op,.int .i64 0,.string ⟨#[]⟩,.slice (some ⟨D.heap.size,0,none⟩) 2 2])) (((((D.setCell ⟨w.heap.size,0,none⟩ (.int .i64 op)).setCell ⟨w.heap.size,1,none⟩ (.int .i64 0)).setCell ⟨w.heap.size,2,none⟩ (.string ⟨#[]⟩)).setCell ⟨w.heap.size,3,none⟩ (.slice (some ⟨D.heap.size,0,none⟩) 2 2)).alloc (.cells #[.int .i64 t.op,.int .i64 t.num,.string t.name,.slice A' t.kids.length c',.int .i64 t2.op,.int .i64 t2.num,.string t2.name,.slice I t2.kids.length c2] 64)):=by
 obtain⟨G,J⟩:=aj ((((D.setCell ⟨w.heap.size,0,none⟩ (.int .i64 op)).setCell ⟨w.heap.size,1,none⟩ (.int .i64 0)).setCell ⟨w.heap.size,2,none⟩ (.string ⟨#[]⟩)).setCell ⟨w.heap.size,3,none⟩ (.slice (some ⟨D.heap.size,0,none⟩) 2 2));rw[←J];have hne:R≠w.heap.size:=by omega
 have N_:G.heap.size=D.heap.size:=by rw[J];simp
 have ab:iZ G R A l.length c j d:=by
  rw[J];unfold iZ;rw[iw _ ⟨w.heap.size,3,none⟩ R _ hne,iw _ ⟨w.heap.size,2,none⟩ R _ hne,iw _ ⟨w.heap.size,1,none⟩ R _ hne,iw _ ⟨w.heap.size,0,none⟩ R _ hne];exact hR
 have ai:aR (fun q=>w.heap.size<q) D G:=by
  rw[J];exact(((aR.refl.set (by omega) _).set (by omega) _).set (by omega) _).set (by omega) _
 have aa:Only (fun q=>q=R) w G:=by rw[J];exact Ja hO
 obtain⟨Y,O⟩:=aj (G.alloc (.cells #[.int .i64 t.op,.int .i64 t.num,.string t.name,.slice A' t.kids.length c',.int .i64 t2.op,.int .i64 t2.num,.string t2.name,.slice I t2.kids.length c2] 64));rw[←O];have iY:=dz O;have ao:Y.heap.size=D.heap.size+1:=by rw[O];simp[N_]
 have GY:Y.heap[D.heap.size]?=some (.cells (bY [⟨t,A',c'⟩,⟨t2,I,c2⟩]).toArray 64 (0,0)):=by rw[O,←N_];exact eu G _
 have nS:aR (fun q=>w.heap.size<q) D Y:=ai.trans (Kb iY);refine⟨⟨some ⟨D.heap.size,0,none⟩,2,rfl,lr _,by unfold maxLen;omega,zl _,.inr ⟨D.heap.size,0,rfl,Nat.le_of_lt hs,by omega,?_⟩⟩,af,ag,ab.below iY (by omega),aa.trans (Ob iY)⟩
 refine jP [⟨t,A',c'⟩,⟨t2,I,c2⟩] 0 (fun k v hv=>by
  rw[Nat.zero_add,cR _ _ k _ _ (0,0) GY]
  simpa using hv) ?_
 intro e he;simp only[List.mem_cons,List.not_mem_nil,or_false]at he
 rcases he with rfl|rfl
 ·exact hV.keep nS (fun q _ h=>Nat.le_of_lt h)
 ·exact ae.keep nS (fun q _ h=>Nat.le_of_lt h)
theorem abM(R:Nat)(A:Option Addr)(c d:Nat)(l:List Tok)(P:jN)(hF:KR R A c d l 145 (.pointer (some ⟨R,0,none⟩)) (fun _=>True) P) :
 KR R A c d l 122 (.pointer (some ⟨R,0,none⟩)) (fun _=>True) (Bu l P):=by
 intro i w hi hR hP hw;have hlen:=hP.len;have fC:=hR.lt;obtain⟨w1,hw1⟩:=aj (w.alloc (.cells #[.int .i64 0,.int .i64 0,.string ⟨#[]⟩,.slice none 0 0] 64));have hb1:=dz hw1;have bL:w1.heap.size=w.heap.size+1:=by rw[hw1];simp
 have bd:w1.heap[w.heap.size]?=some (.cells #[.int .i64 0,.int .i64 0,.string ⟨#[]⟩,.slice none 0 0] 64 (0,0)):=by rw[hw1];exact eu w _
 have aE:Only (fun q=>q=R) w w1:=Ob hb1;have ax:Calls Tryz.prog 145 #[.pointer (some ⟨R,0,none⟩)] w1 (PQ R A c d l i (P i) w1):=hF i w1 hi (hR.below hb1 fC) (hP.only aE) trivial;obtain⟨r1,aF⟩:=aj (P i);obtain⟨F,vU⟩:=aj (PQ R A c d l i (Bu l P i) w);have bE:Hid (F=PQ R A c d l i (r1.then fun t j=>if au l j [9]=0 then .ok t j else(P (j+1)).then fun u k=>.ok (dD 9 [t,u]) k) w):=by show _=_;rw[vU,aF];rfl
 rw[←vU];rw[←aF]at ax;have bj:=Hd ax;have bk:=Hd hw1;have wH:=Hd aE;have qH:=Hd bd;have Am:=Hd hF;have HP:=Hd hP;clear ax aF vU hw1 hb1 aE bd hF hP hw hR;go_in;go_wp2_with fail;rw[←bk];refine bj.mono ?_;intro e w4 hq
 cases r1 with
 |bad j x=>
  obtain⟨rfl,iC⟩:=hq;refine(show _∧_ from⟨rfl,?_⟩);rw[bE];exact⟨rfl,wH.trans iC⟩
 |ok t j=>
  obtain⟨⟨A',c',rfl,hV⟩,br,bu,vD,iC⟩:=hq;have bv:=iC.size;obtain⟨n2,az⟩:=aj t.kids.length;unfold Tm.val;rw[←az];obtain⟨bt,Y⟩:=aj w4.heap.size;obtain⟨wt,ae⟩:=aj (w4.alloc (.cells #[.int .i64 t.op,.int .i64 t.num,.string t.name,.slice A' n2 c'] 64));have xX:=dz ae;have bh:wt.heap.size=bt+1:=by rw[ae,Y];simp
  have vF:wt.heap[bt]?=some (.cells #[.int .i64 t.op,.int .i64 t.num,.string t.name,.slice A' n2 c'] 64 (0,0)):=by rw[ae,Y];exact eu w4 _
  obtain⟨wo,ab⟩:=aj (wt.alloc (.cells #[.int .i64 9] 3));have Uj:=dz ab;have bg:wo.heap.size=bt+2:=by rw[ab];simp[bh]
  have ao:Only (fun q=>q=R) w1 wo:=iC.trans ((Ob xX).trans (Ob Uj));have ar:iZ wo R A l.length c j d:=(vD.below xX (by omega)).below Uj (by omega);have JV:=(Uj.block bt (by omega)).trans vF
  have aP:Calls Tryz.prog 146 #[.pointer (some ⟨R,0,none⟩),.slice (some ⟨wt.heap.size,0,none⟩) 1 1] wo fun e w'=>e=.returned (.int .i64 (au l j [9]))∧∃n,w'=wo.drewN n:=
   zR R A c j d l wt.heap.size 1 [9] wo ar (HP.only (wH.trans ao)) (by omega) (by rw[ab];exact tY wt [9]) (by simp) (by omega)
  rw[bh]at aP;have HK:Hid (aR (fun q=>w1.heap.size≤q) w4 wo):=(Kb xX).trans (Kb Uj);have qj:=Hd aP;have bm:=Hd ae;have bl:=Hd ab;have oW:=Hd Y;have kU:=Hd az;clear az ae ab xX Uj vF aP;go_wp2_with fail;rw[←oW,←bm,←bl];refine qj.mono ?_;rintro e I ⟨rfl,q,gH⟩;have Ug:Only (fun q=>q=R) w1 I:=by rw[gH];exact ao.drewN q
  have a8:iZ I R A l.length c j d:=by rw[gH];exact ar.drewN q
  have av:I.heap[bt]?=some (.cells #[.int .i64 t.op,.int .i64 t.num,.string t.name,.slice A' n2 c'] 64 (0,0)):=by rw[gH];exact JV
  have bW:I.heap.size=bt+2:=by rw[gH];exact bg
  have bJ:w1.heap.size≤bt:=by rw[Y];exact bv
  have aw:bt≠R:=by omega
  have aQ:=(Ug.block w.heap.size (by omega) (by omega)).trans qH;have bf:aR (fun q=>w1.heap.size≤q) w4 I:=by rw[gH];exact⟨by show w4.heap.size≤wo.heap.size;omega,fun q hq hl=>HK.block q hq hl⟩
  have Uh:aD (fun q=>w.heap.size<q) I A' c' t:=hV.keep bf (fun q _ h=>by omega);clear bf Y gH bg ao ar JV vD;have OL:=Hd a8;have a6:=Hd Ug;have ai:=Hd Uh;have a7:=Hd aQ;have pU:=Hd av;obtain⟨v0,v1,v2,v3,zq⟩:=q4 aQ;obtain⟨y0,y1,y2,y3,xq⟩:=q4 av;have Jb:w.heap.size<I.heap.size:=by omega
  have bp:bt<I.heap.size:=by omega
  clear a8 Ug Uh aQ av hV
  by_cases hz:au l j [9]=0
  ·have ag:Hid (F=PQ R A c d l i (.ok t j) w):=by show _=_;rw[bE];show PQ R A c d l i (if au l j [9]=0 then _ else _) w=_;rw[iP hz]
   rw[hz];clear hz;go_wp2_with fail;refine bR (Gg (ni a7)) rfl ?_;rw[ag];have h:=oq (.int .i64 t.op) (.int .i64 t.num) (.string t.name) (.slice A' n2 c') br bu fC OL (wH.trans a6) ai;unfold Tm.val at h;rw[←kU]at h;exact h
  ·have bz:(au l j [9]==0)=false:=by simpa using hz
   have bC:=rO hz;have ag:Hid (F=PQ R A c d l i ((P (j+1)).then fun u k=>.ok (dD 9 [t,u]) k) w):=by show _=_;rw[bE];show PQ R A c d l i (if au l j [9]=0 then _ else _) w=_;rw[iN hz]
   obtain⟨zz,bi⟩:=aj (au l j [9]);rw[←bi]at bz⊢;have c1:=OL.c1;have f1:=OL.frozen 1;clear hz bi;go_wp2_with fail;refine wp_region_any (by kernel_rfl) ?_
   change wpAny _ _ _ _ _ _ _ (World.drew _)
   obtain⟨W3,ba⟩:=aj ((I.setCell ⟨R,1,none⟩ (.int .i64 ((j:Int)+1))).drew);have hwn:yU R A l.length c d (j+1) I ((I.setCell ⟨R,1,none⟩ (.int .i64 ((j:Int)+1))).drew):=zG (m:=1) (jf (m:=0) OL);rw[←ba]at hwn⊢;have aa:Only (fun q=>q=R) I W3:=hwn.2.1;have bP:W3.heap.size=I.heap.size:=hwn.2.2;have Ms:=wH.trans (a6.trans aa);have D:Calls Tryz.prog 145 #[.pointer (some ⟨R,0,none⟩)] W3 (PQ R A c d l (j+1) (P (j+1)) W3):=Am (j+1) W3 (by omega) hwn.1 (HP.only Ms) trivial;have bb:=(aa.block bt bp aw).trans pU;have Oh:=Hd ((aa.block w.heap.size Jb (by omega)).trans a7);have af:=Hd bb;have aS:Hid (aR (fun q=>w.heap.size<q) I W3):=aR.cO aa (by omega);obtain⟨r2,aJ⟩:=aj (P (j+1));have dJ:Hid (F=PQ R A c d l i (r2.then fun u k=>.ok (dD 9 [t,u]) k) w):=by show _=_;rw[ag,aJ]
   rw[← aJ]at D;have Cx:=Lib.hid D;have Kn:=Lib.hid Ms;clear ba hwn aa Ms D aJ bb c1 f1 zq v0 v1 v2 v3 y0 y1 y2 y3 xq;obtain⟨y0,y1,y2,y3,xq⟩:=q4 af;clear xq;refine wpAny_take (i:=1) (oi:={dst:=some 21,op:=Op.move (Operand.tmp 0),type:=182,pos := "ttext.go:245",after:=#[],guard:=none}) (v:=?_) rfl (by kernel_rfl) (by kernel_rfl) (by kernel_rfl) (fun _ _ _ h=>h) (Or.inl ⟨by rfl,?hy⟩) ?_
   case hy=>intro w0;go_simp;(first|done|with_reducible rfl)
   try simp only[Act.put,aT,aU,aV]
   cases r2 with
   |bad jb xb=>
    refine wpAny_ready (rs:=[0,2]) (by kernel_rfl) (by simp) ?_;refine AllReady.cons (o:={dst:=some 20,op:=Op.load 64 (Operand.tmp 3),type:=64,pos := "ttext.go:245",after:=#[],guard:=none}) rfl (fun K hK=>?_) ?_
    ·go_simp;refine hK _ _ ?_;clear hK K;(try simp only[Act.put,aT,aU,aV]);refine wpAny_ready (rs:=[2]) (by kernel_rfl) (by simp) ?_;refine AllReady.cons (o:={dst:=some 22,op:=Op.call {callee:=Callee.value (Operand.func 145),args:=#[Operand.tmp 21],argTypes:=#[182]},type:=64,pos := "ttext.go:245",after:=#[{on:=1,ground:=Ground.data}],guard:=none}) rfl (fun K hK=>?_) AllReady.nil;go_simp;(with_reducible refine(Cx.out).mono ?_);intro e w6 hq;obtain⟨rfl,G⟩:=hq;refine(show _∧_ from⟨rfl,?_⟩);rw[dJ];exact⟨rfl,Kn.trans G⟩
    ·refine AllReady.cons (o:={dst:=some 22,op:=Op.call {callee:=Callee.value (Operand.func 145),args:=#[Operand.tmp 21],argTypes:=#[182]},type:=64,pos := "ttext.go:245",after:=#[{on:=1,ground:=Ground.data}],guard:=none}) rfl (fun K hK=>?_) AllReady.nil;go_simp;(with_reducible refine(Cx.out).mono ?_);intro e w6 hq;obtain⟨rfl,G⟩:=hq;refine(show _∧_ from⟨rfl,?_⟩);rw[dJ];exact⟨rfl,Kn.trans G⟩
   |ok t2 j2=>
    refine wpAny_ready (rs:=[0,2]) (by kernel_rfl) (by simp) ?_;refine AllReady.cons (o:={dst:=some 20,op:=Op.load 64 (Operand.tmp 3),type:=64,pos := "ttext.go:245",after:=#[],guard:=none}) rfl (fun K hK=>?_) ?_
    ·go_simp;refine hK _ _ ?_;clear hK K;(try simp only[Act.put,aT,aU,aV]);refine wpAny_ready (rs:=[2]) (by kernel_rfl) (by simp) ?_;refine AllReady.cons (o:={dst:=some 22,op:=Op.call {callee:=Callee.value (Operand.func 145),args:=#[Operand.tmp 21],argTypes:=#[182]},type:=64,pos := "ttext.go:245",after:=#[{on:=1,ground:=Ground.data}],guard:=none}) rfl (fun K hK=>?_) AllReady.nil;go_simp;(with_reducible refine(Cx.out).mono ?_);intro e w6 hq;obtain⟨⟨A2,c2,rfl,J⟩,ay,uH,uI,G⟩:=hq;obtain⟨n3,AV⟩:=ak t2.kids.length;unfold Tm.val;rw[← AV];have Fy:=Lib.hid G;have jm:=Lib.hid J;have o7:=Lib.hid uI;have bw:=G.size;have bn:bt<w6.heap.size:=by omega
     have bo:w.heap.size<w6.heap.size:=by omega
     have O:=(G.block bt (by omega) aw).trans af;have Pq:=Lib.hid ((G.block w.heap.size (by omega) (by omega)).trans Oh);clear J uI G y0 y1 y2 y3;obtain⟨y0,y1,y2,y3,xq⟩:=q4 O;clear xq O;obtain⟨v0,v1,v2,v3,zq⟩:=q4 Pq;refine hK _ _ ?_;clear hK K;(try simp only[Act.put,aT,aU,aV]);refine wpAny_ready (rs:=[3]) (by kernel_rfl) (by simp) ?_;refine AllReady.cons (o:={dst:=some 23,op:=Op.buildSlice 25 2 #[(0,Operand.tmp 20),(1,Operand.tmp 22)],type:=25,pos := "ttext.go:245",after:=#[{on:=0,ground:=Ground.data},{on:=2,ground:=Ground.data}],guard:=none}) rfl (fun K hK=>?_) AllReady.nil;go_simp;refine hK _ _ ?_;clear hK K;(try simp only[Act.put,aT,aU,aV]);refine wpAny_ready (rs:=[4]) (by kernel_rfl) (by simp) ?_;refine AllReady.cons (o:={dst:=some 24,op:=Op.build 64 #[(0,Operand.const (Value.int IntKind.i64 9)),(3,Operand.tmp 23)],type:=64,pos := "ttext.go:245",after:=#[{on:=3,ground:=Ground.data}],guard:=none}) rfl (fun K hK=>?_) AllReady.nil;go_simp;refine hK _ _ ?_;clear hK K;(try simp only[Act.put,aT,aU,aV]);refine wpAny_ready (rs:=[5]) (by kernel_rfl) (by simp) ?_
     refine AllReady.cons (o:={dst:=none,op:=Op.store 64 (Operand.tmp 2) (Operand.tmp 24),type:=0,pos := "ttext.go:245",after:=#[{on:=4,ground:=Ground.data},{on:=2,ground:=Ground.chain},{on:=0,ground:=Ground.phase},{on:=1,ground:=Ground.phase},{on:=2,ground:=Ground.phase},{on:=3,ground:=Ground.phase},{on:=4,ground:=Ground.phase}],guard:=none}) rfl (fun K hK=>?_) AllReady.nil;go_simp;refine hK _ _ ?_;clear hK K;(try simp only[Act.put,aT,aU,aV]);refine wpAny_done (by kernel_rfl) ?_ _;go_wp2_with fail;refine bodyPost_ret (Gg (sZ (ni Pq))) rfl ?_;rw[dJ,kU,AV];exact GZ 9 (by omega) uH fC o7 (Kn.trans Fy) (by omega) ((ai.keep aS (fun q _ h=>h)).keep (aR.cO Fy (by omega)) (fun q _ h=>h)) (jm.keep aR.refl (fun q _ h=>by omega))
    ·refine AllReady.cons (o:={dst:=some 22,op:=Op.call {callee:=Callee.value (Operand.func 145),args:=#[Operand.tmp 21],argTypes:=#[182]},type:=64,pos := "ttext.go:245",after:=#[{on:=1,ground:=Ground.data}],guard:=none}) rfl (fun K hK=>?_) AllReady.nil;go_simp;(with_reducible refine(Cx.out).mono ?_);intro e w6 hq;obtain⟨⟨A2,c2,rfl,J⟩,ay,uH,uI,G⟩:=hq;obtain⟨n3,AV⟩:=ak t2.kids.length;unfold Tm.val;rw[← AV];have Fy:=Lib.hid G;have jm:=Lib.hid J;have o7:=Lib.hid uI;have bw:=G.size;have bn:bt<w6.heap.size:=by omega
     have bo:w.heap.size<w6.heap.size:=by omega
     have O:=(G.block bt (by omega) aw).trans af;have Pq:=Lib.hid ((G.block w.heap.size (by omega) (by omega)).trans Oh);clear J uI G y0 y1 y2 y3;obtain⟨y0,y1,y2,y3,xq⟩:=q4 O;clear xq O;obtain⟨v0,v1,v2,v3,zq⟩:=q4 Pq;refine hK _ _ ?_;clear hK K;(try simp only[Act.put,aT,aU,aV]);refine wpAny_ready (rs:=[0]) (by kernel_rfl) (by simp) ?_;refine AllReady.cons (o:={dst:=some 20,op:=Op.load 64 (Operand.tmp 3),type:=64,pos := "ttext.go:245",after:=#[],guard:=none}) rfl (fun K hK=>?_) AllReady.nil;go_simp;refine hK _ _ ?_;clear hK K;(try simp only[Act.put,aT,aU,aV]);refine wpAny_ready (rs:=[3]) (by kernel_rfl) (by simp) ?_;refine AllReady.cons (o:={dst:=some 23,op:=Op.buildSlice 25 2 #[(0,Operand.tmp 20),(1,Operand.tmp 22)],type:=25,pos := "ttext.go:245",after:=#[{on:=0,ground:=Ground.data},{on:=2,ground:=Ground.data}],guard:=none}) rfl (fun K hK=>?_) AllReady.nil;go_simp;refine hK _ _ ?_;clear hK K;(try simp only[Act.put,aT,aU,aV]);refine wpAny_ready (rs:=[4]) (by kernel_rfl) (by simp) ?_;refine AllReady.cons (o:={dst:=some 24,op:=Op.build 64 #[(0,Operand.const (Value.int IntKind.i64 9)),(3,Operand.tmp 23)],type:=64,pos := "ttext.go:245",after:=#[{on:=3,ground:=Ground.data}],guard:=none}) rfl (fun K hK=>?_) AllReady.nil;go_simp;refine hK _ _ ?_;clear hK K;(try simp only[Act.put,aT,aU,aV]);refine wpAny_ready (rs:=[5]) (by kernel_rfl) (by simp) ?_
     refine AllReady.cons (o:={dst:=none,op:=Op.store 64 (Operand.tmp 2) (Operand.tmp 24),type:=0,pos := "ttext.go:245",after:=#[{on:=4,ground:=Ground.data},{on:=2,ground:=Ground.chain},{on:=0,ground:=Ground.phase},{on:=1,ground:=Ground.phase},{on:=2,ground:=Ground.phase},{on:=3,ground:=Ground.phase},{on:=4,ground:=Ground.phase}],guard:=none}) rfl (fun K hK=>?_) AllReady.nil;go_simp;refine hK _ _ ?_;clear hK K;(try simp only[Act.put,aT,aU,aV]);refine wpAny_done (by kernel_rfl) ?_ _;go_wp2_with fail;refine bodyPost_ret (Gg (sZ (ni Pq))) rfl ?_;rw[dJ,kU,AV];exact GZ 9 (by omega) uH fC o7 (Kn.trans Fy) (by omega) ((ai.keep aS (fun q _ h=>h)).keep (aR.cO Fy (by omega)) (fun q _ h=>h)) (jm.keep aR.refl (fun q _ h=>by omega))
abbrev Xd:=@q4
theorem JW{W:World}{b q:Nat}{v0 v1 v2 v3:Value}(h:q≠b):((((W.setCell ⟨b,0,none⟩ v0).setCell ⟨b,1,none⟩ v1).setCell ⟨b,2,none⟩ v2).setCell ⟨b,3,none⟩ v3).heap[q]?=W.heap[q]?:=by
 rw[iw _ ⟨b,3,none⟩ q _ h,iw _ ⟨b,2,none⟩ q _ h,iw _ ⟨b,1,none⟩ q _ h,iw _ ⟨b,0,none⟩ q _ h]
theorem vV.block{R D:Nat}{w w':World}(h:vV R D w)(hb:w'.heap[D]?=w.heap[D]?)(hs:w.heap.size≤w'.heap.size):vV R D w':=⟨by rw[World.cell?_of_block (a:=⟨D,0,none⟩) hb];exact h.1,lL h.2.1 hs,h.2.2⟩
theorem adC(R:Nat)(A:Option Addr)(c d:Nat)(l:List Tok)(P PI:jN)(hd:d≤256)(hF:KR R A c d l 173 (.pointer (some ⟨R,0,none⟩)) (fun _=>True) P)(hI:d<256→KR R A c (d+1) l 145 (.pointer (some ⟨R,0,none⟩)) (fun _=>True) PI) :
 KR R A c d l 145 (.pointer (some ⟨R,0,none⟩)) (fun _=>True) (Gn l (if d=256 then none else some PI) (many l 7 (many l 6 P))):=by
 intro i w hi hR hP hw;have hlen:=hP.len;have Og:=hR.lt;obtain⟨wb,ae⟩:=aj (w.alloc (.cells #[.pointer (some ⟨R,0,none⟩)] 182));have aQ:=dz ae;have bm:wb.heap.size=w.heap.size+1:=by rw[ae];simp
 have a7:Only (fun q=>q=R) w wb:=Ob aQ;have aF:iZ wb R A l.length c i d:=hR.below aQ Og;have fC:=aF.lt;have az:=hP.only a7;obtain⟨Y,av⟩:=aj w.heap.size;have G5:vV R Y wb:=⟨by rw[ae,av];exact(cR _ _ 0 _ _ (0,0) (eu w _)).trans rfl,by omega,by omega⟩;have cd:Y<wb.heap.size:=G5.2.1;have cb:Y≠R:=G5.2.2;obtain⟨w1,hw1⟩:=aj (wb.alloc (.cells #[.int .i64 0,.int .i64 0,.string ⟨#[]⟩,.slice none 0 0] 64));have hb1:=dz hw1;have cf:w1.heap.size=wb.heap.size+1:=by rw[hw1];simp
 have bk:w1.heap[wb.heap.size]?=some (.cells #[.int .i64 0,.int .i64 0,.string ⟨#[]⟩,.slice none 0 0] 64 (0,0)):=by rw[hw1];exact eu wb _
 have ao:Only (fun q=>q=R) wb w1:=Ob hb1;have ay:=G5.only ao;have k0:=G5.1;have br:=ay.1;rw[av]at k0 br
 have aS:Calls Tryz.prog 171 #[.pointer (some ⟨R,0,none⟩),.int .i64 7,.func (.func 172) #[] #[.pointer (some ⟨Y,0,none⟩)]] w1 (PQ R A c d l i (many l 7 (many l 6 P) i) w1):=
  Pt R A c d l 172 (.pointer (some ⟨Y,0,none⟩)) false (vV R Y) (many l 6 P) 7 i w1 (fun _ _=>by kernel_rfl) (fun _ _ h ho=>h.only ho) (abL R A c d l Y P hF) hi (aF.below hb1 fC) (az.only ao) ay
 obtain⟨r1,a8⟩:=aj (many l 7 (many l 6 P) i);obtain⟨F0,Uk⟩:=aj (PQ R A c d l i (Gn l (if d=256 then none else some PI) (many l 7 (many l 6 P)) i) w);obtain⟨F,vU⟩:=aj (PQ R A c d l i (Gn l (if d=256 then none else some PI) (many l 7 (many l 6 P)) i) wb);have IK:Hid (∀e w',F e w'→F0 e w'):=fun e w' h=>by rw[vU]at h;rw[Uk];exact h.back a7
 have bE:Hid (F=PQ R A c d l i (r1.then fun t j=>if au l j [8]=0 then .ok t j else(if d=256 then .bad j 17 else PI (j+1)).then fun u k=>.ok (dD 8 [t,u]) k) wb):=by
  show _=_;rw[vU,a8]
  by_cases h:d=256
  ·simp only[h,if_true];rfl
  ·simp only[h,if_false];rfl
 rw[←Uk];rw[←a8]at aS;have bw:=Hd (fun(W:World)(j:Nat)(hj:j<l.length)(bZ:iZ W R A l.length c j d)(qx:iI W R A c l)=>Cu R A c d l 145 (.pointer (some ⟨R,0,none⟩)) true (fun _=>True) PI j W (fun _ _=>by kernel_rfl) (fun _ _ _ _=>trivial) hI hd hj bZ qx trivial);have bv:=Hd aS;have jy:=Hd ae;have p9:=Hd bm;have VW:=Hd av;have bC:=Hd hw1;have wH:=Hd ao;have qH:=Hd bk;have HP:=Hd az;have aw:=Hd G5;clear aS a8 vU Uk hw1 hb1 ao bk hF hP az hw hR aF aQ a7 G5 ay hI ae bm av;go_in;go_wp2_with fail;rw[←jy,←bC,←p9,←VW];clear k0 br;have b0:∀e w',F e w'→F0 e w':=IK;refine bv.mono ?_;intro e w4 hq
 cases r1 with
 |bad j x=>
  obtain⟨rfl,iC⟩:=hq;refine(show _∧_ from⟨rfl,?_⟩);refine IK _ _ ?_;rw[bE];exact⟨rfl,wH.trans iC⟩
 |ok t j=>
  obtain⟨⟨A',c',rfl,hV⟩,b2,b4,vD,iC⟩:=hq;have b5:=iC.size;clear b0;have aJ:=(aw.only wH).only iC;have q4:=aJ.1;have cj:=aJ.2.1;obtain⟨n2,a6⟩:=aj t.kids.length;unfold Tm.val;rw[←a6];obtain⟨bt,ab⟩:=aj w4.heap.size;obtain⟨wt,ag⟩:=aj (w4.alloc (.cells #[.int .i64 t.op,.int .i64 t.num,.string t.name,.slice A' n2 c'] 64));have xX:=dz ag;have bo:wt.heap.size=bt+1:=by rw[ag,ab];simp
  have vF:wt.heap[bt]?=some (.cells #[.int .i64 t.op,.int .i64 t.num,.string t.name,.slice A' n2 c'] 64 (0,0)):=by rw[ag,ab];exact eu w4 _
  obtain⟨wo,af⟩:=aj (wt.alloc (.cells #[.int .i64 8] 3));have Uj:=dz af;have bn:wo.heap.size=bt+2:=by rw[af];simp[bo]
  have ai:Only (fun q=>q=R) w1 wo:=iC.trans ((Ob xX).trans (Ob Uj));have aE:iZ wo R A l.length c j d:=(vD.below xX (by omega)).below Uj (by omega);have JV:=(Uj.block bt (by omega)).trans vF
  have bb:Calls Tryz.prog 146 #[.pointer (some ⟨R,0,none⟩),.slice (some ⟨wt.heap.size,0,none⟩) 1 1] wo fun e w'=>e=.returned (.int .i64 (au l j [8]))∧∃n,w'=wo.drewN n:=
   zR R A c j d l wt.heap.size 1 [8] wo aE (HP.only (wH.trans ai)) (by omega) (by rw[af];exact tY wt [8]) (by simp) (by omega)
  rw[bo]at bb;have HK:Hid (aR (fun q=>w1.heap.size≤q) w4 wo):=(Kb xX).trans (Kb Uj);have qj:=Hd bb;have bu:=Hd ((aw.only wH).only ai);have qt:wt.cell? ⟨Y,0,none⟩=_:=((aw.only wH).only (iC.trans (Ob xX))).1;clear aJ;have bL:=Hd ag;have bJ:=Hd af;have oW:=Hd ab;have kU:=Hd a6;clear a6 ag af xX Uj vF bb;go_wp2_with fail;rw[←oW,←bL,←bJ];refine qj.mono ?_;rintro e O ⟨rfl,q,gH⟩;have bW:Hid (vV R Y O):=by show vV R Y O;rw[gH];exact bu
  have Ug:Only (fun q=>q=R) w1 O:=by rw[gH];exact ai.drewN q
  have bi:iZ O R A l.length c j d:=by rw[gH];exact aE.drewN q
  have aP:O.heap[bt]?=some (.cells #[.int .i64 t.op,.int .i64 t.num,.string t.name,.slice A' n2 c'] 64 (0,0)):=by rw[gH];exact JV
  have ch:O.heap.size=bt+2:=by rw[gH];exact bn
  have cc:w1.heap.size≤bt:=by rw[ab];exact b5
  have b1:bt≠R:=by omega
  have bd:=(Ug.block wb.heap.size (by omega) (by omega)).trans qH;have bl:aR (fun q=>w1.heap.size≤q) w4 O:=by rw[gH];exact⟨by show w4.heap.size≤wo.heap.size;omega,fun q hq hl=>HK.block q hq hl⟩
  have Uh:aD (fun q=>wb.heap.size<q) O A' c' t:=hV.keep bl (fun q _ h=>by omega);clear bl ab gH bn ai aE JV vD;have OL:=Hd bi;have bf:=Hd Ug;have bg:=Hd Uh;have bh:=Hd bd;have pU:=Hd aP;obtain⟨v0,v1,v2,v3,zq⟩:=Xd bd;obtain⟨y0,y1,y2,y3,xq⟩:=Xd aP;have Jb:wb.heap.size<O.heap.size:=by omega
  have b9:bt<O.heap.size:=by omega
  clear bi Ug Uh bd aP hV
  by_cases hz:au l j [8]=0
  ·have ax:Hid (F=PQ R A c d l i (.ok t j) wb):=by show _=_;rw[bE];show PQ R A c d l i (if au l j [8]=0 then _ else _) wb=_;rw[iP hz]
   rw[hz];clear hz;go_wp2_with fail;refine bR (Gg (ni bh)) rfl ?_;refine IK _ _ ?_;rw[ax];have h:=oq (.int .i64 t.op) (.int .i64 t.num) (.string t.name) (.slice A' n2 c') b2 b4 fC OL (wH.trans bf) bg;unfold Tm.val at h;rw[←kU]at h;exact h
  ·have b6:(au l j [8]==0)=false:=by simpa using hz
   have bP:=rO hz;have ax:Hid (F=PQ R A c d l i ((if d=256 then .bad j 17 else PI (j+1)).then fun u k=>.ok (dD 8 [t,u]) k) wb):=by show _=_;rw[bE];show PQ R A c d l i (if au l j [8]=0 then _ else _) wb=_;rw[iN hz]
   obtain⟨zz,bp⟩:=aj (au l j [8]);rw[←bp]at b6⊢;have c1:=OL.c1;have f1:=OL.frozen 1;clear hz bp;go_wp2_with fail;refine wp_region_held_drew (S:=fun w'=>w'.heap[bt]?=some (.cells #[.int .i64 t.op,.int .i64 t.num,.string t.name,.slice A' n2 c'] 64 (0,0))∧vV R Y w') (by kernel_rfl) ⟨pU,bW⟩ (fun G=>?_);obtain⟨W3,aa⟩:=aj O.drew;rw[←aa]at G⊢;have VU:iZ W3 R A l.length c j d:=by rw[aa];exact OL
   have ar:Only (fun q=>q=R) O W3:=by rw[aa];exact(Only.refl (F:=fun q=>q=R)).drewN 1
   have cg:W3.heap.size=O.heap.size:=by rw[aa];rfl
   have Ms:=wH.trans (bf.trans ar);have J:Calls Tryz.prog 174 #[.pointer (some ⟨R,0,none⟩),.func (.func 145) #[.pointer (some ⟨R,0,none⟩)] #[]] W3 (PQ R A c d l j (if d=256 then .bad j 17 else PI (j+1)) W3):=bw W3 j bP VU (HP.only Ms);have Oh:=Hd ((ar.block wb.heap.size Jb (by omega)).trans bh);have bz:Hid (aR (fun q=>wb.heap.size<q) O W3):=aR.cO ar (by omega);obtain⟨r2,ba⟩:=aj ((if d=256 then .bad j 17 else PI (j+1)));have dJ:Hid (F=PQ R A c d l i (r2.then fun u k=>.ok (dD 8 [t,u]) k) wb):=by show _=_;rw[ax,ba]
   rw[←ba]at J;have Cx:=Hd J;have Kn:=Hd Ms;clear aa VU ar Ms J ba c1 f1 zq v0 v1 v2 v3 y0 y1 y2 y3 xq;refine gJ 0 (v:=?_) rfl (Or.inl ⟨by rfl,?hy⟩) (by assumption) ?_
   case hy=>
    intro w0 D;have e0:=(kr D.1).1.1;have e1:=(kr D.1).2.1.1;have e2:=(kr D.1).2.2.1.1;have e3:=(kr D.1).2.2.2.1;have e4:=D.2.1;clear D;go_simp
    (first|done|with_reducible rfl)
   (try simp only[Act.put,aT,aU,aV]);refine gJ 1 (v:=?_) rfl (Or.inl ⟨by rfl,?hy⟩) (by assumption) ?_
   case hy=>
    intro w0 D;have e0:=(kr D.1).1.1;have e1:=(kr D.1).2.1.1;have e2:=(kr D.1).2.2.1.1;have e3:=(kr D.1).2.2.2.1;have e4:=D.2.1;clear D;go_simp
    (first|done|with_reducible rfl)
   (try simp only[Act.put,aT,aU,aV]);refine gJ 2 (v:=?_) rfl (Or.inl ⟨by rfl,?hy⟩) (by assumption) ?_
   case hy=>
    intro w0 D;have e0:=(kr D.1).1.1;have e1:=(kr D.1).2.1.1;have e2:=(kr D.1).2.2.1.1;have e3:=(kr D.1).2.2.2.1;have e4:=D.2.1;clear D;go_simp
    (first|done|with_reducible rfl)
   (try simp only[Act.put,aT,aU,aV]);refine gJ 3 (v:=?_) rfl (Or.inl ⟨by rfl,?hy⟩) (by assumption) ?_
   case hy=>
    intro w0 D;have e0:=(kr D.1).1.1;have e1:=(kr D.1).2.1.1;have e2:=(kr D.1).2.2.1.1;have e3:=(kr D.1).2.2.2.1;have e4:=D.2.1;clear D;go_simp
    (first|done|with_reducible rfl)
   try simp only[Act.put,aT,aU,aV]
   cases r2 with
   |bad jb xb=>
    refine Rd (rs:=[4]) (by kernel_rfl) (by simp) ?_;refine Rc rfl (fun K hK=>?_) Rn;go_simp;(with_reducible refine(Cx.out).mono ?_);intro e w6 hq;obtain⟨rfl,iX⟩:=hq;refine(show _∧_ from⟨rfl,?_⟩);refine IK _ _ ?_;rw[dJ];exact⟨rfl,Kn.trans iX⟩
   |ok t2 j2=>
    refine Rd (rs:=[4]) (by kernel_rfl) (by simp) ?_;refine Rc rfl (fun K hK=>?_) Rn;go_simp;(with_reducible refine(Cx.out).mono ?_);intro e w6 hq;obtain⟨⟨A2,c2,rfl,bj⟩,b3,uH,uI,iX⟩:=hq;obtain⟨n3,AV⟩:=ak t2.kids.length;unfold Tm.val;rw[←AV];have Fy:=Hd iX;have jm:=Hd bj;have o7:=Hd uI;have ci:=iX.size;have b7:bt<w6.heap.size:=by omega
    have b8:wb.heap.size<w6.heap.size:=by omega
    have Pq:=Hd ((iX.block wb.heap.size (by omega) (by omega)).trans Oh);have I:Hid (w6.heap[bt]?=some (.cells #[.int .i64 t.op,.int .i64 t.num,.string t.name,.slice A' n2 c'] 64 (0,0))∧vV R Y w6):=⟨(iX.block bt (by omega) b1).trans G.1,G.2.only iX⟩;clear bj uI iX G;obtain⟨v0,v1,v2,v3,zq⟩:=Xd Pq;refine hK.out _ _ (I) (fun G=>?_);clear hK K;(try simp only[Act.put,aT,aU,aV]);refine Rd (rs:=[5]) (by kernel_rfl) (by simp) ?_;refine Rc rfl (fun K hK=>?_) Rn;go_simp;refine hK.out _ _ (⟨aK I.1,I.2.only (Ob ((Br _ _).alloc (lr _) _))⟩) (fun G=>?_);clear hK K;(try simp only[Act.put,aT,aU,aV]);refine Rd (rs:=[6]) (by kernel_rfl) (by simp) ?_;refine Rc rfl (fun K hK=>?_) Rn;go_simp;refine hK.out _ _ (⟨aK I.1,I.2.only (Ob ((Br _ _).alloc (lr _) _))⟩) (fun G=>?_);clear hK K;(try simp only[Act.put,aT,aU,aV]);refine Rd (rs:=[7]) (by kernel_rfl) (by simp) ?_;refine Rc rfl (fun K hK=>?_) Rn;go_simp;refine hK.out _ _ (⟨aK ((JW (by omega)).trans I.1),(I.2.block (JW (by omega)) (by simp)).only (Ob ((Br _ _).alloc (lr _) _))⟩) (fun G=>?_);clear hK K;(try simp only[Act.put,aT,aU,aV]);refine wpAnyH_done (by kernel_rfl) ?_ _;clear G
    go_wp2_with fail;refine bR (Gg (aK (ni Pq))) rfl ?_;refine IK _ _ ?_;rw[dJ,kU,AV];exact GZ 8 (by omega) uH fC o7 (Kn.trans Fy) (by omega) ((bg.keep bz (fun q _ h=>h)).keep (aR.cO Fy (by omega)) (fun q _ h=>h)) (jm.keep Kr (fun q _ h=>by omega))
end Go.Proofs.YtkhoeoilamddaaaGreatDoor
