/- Walks and plain words: SpE SpF SpG. -/
import Derived.Test.YtkhoeoilamddaaaGreatDoorQSpB
import Derived.Test.YtkhoeoilamddaaaGreatDoorQMtJ
namespace Go.Proofs.YtkhoeoilamddaaaGreatDoor
open Go.RowKit
set_option linter.unusedVariables false
set_option maxRecDepth 100000
set_option maxHeartbeats 16000000
theorem anD:∀k,k<8→bs (kwS k)=ji k:=fun k D=>by
 rcases lt8 D with rfl|rfl|rfl|rfl|rfl|rfl|rfl|rfl<;>rfl
theorem an3{k:Nat}(G:k<8)(j:Nat)(D:j<8):((kwS k).toList==(kwS j).toList)=decide (k=j):=by
 rw[vY,anD k G,anD j D]
 rcases lt8 G with rfl|rfl|rfl|rfl|rfl|rfl|rfl|rfl<;>rcases lt8 D with rfl|rfl|rfl|rfl|rfl|rfl|rfl|rfl<;>decide
theorem aoK(k:Nat)(hk:k=2∨k=3∨k=5∨k=6)(l:List Tok)(A:Option Addr)(cA:Nat)(bb:RTk l A cA)(i:Nat)(w:World)(B:Nat)(F:Nat→Prop)(a:Nat→Option Addr)(D c:Nat→Nat)(X:Nat→List (List Value))(G:Nat→List El)(hP:dP w A cA l)(hi:i≤l.length)(aw:RM w B F (VSl a D c) X G)(a8:∀k,k<8→D k=(G k).length)(hlen:D k<64)(a6:B≤w.heap.size)(a7:∀q,F q→q<w.heap.size) :
 Calls Tryz.prog 51 #[.agg #[.slice (a 0) (D 0) (c 0),.slice (a 1) (D 1) (c 1),.slice (a 2) (D 2) (c 2),.slice (a 3) (D 3) (c 3),.slice (a 4) (D 4) (c 4),.slice (a 5) (D 5) (c 5),.slice (a 6) (D 6) (c 6),.slice (a 7) (D 7) (c 7)],.slice A l.length cA,.int .i64 (i:Nat),.string (kwS k)] w (ElQ w B F X G k (elK l k i)):=by
 obtain⟨R,HR⟩:=ak (elK l k i);obtain⟨F0,HF⟩:=ak (ElQ w B F X G k R);rw[←HR.out,←HF.out];have bu:=hP.len;have az:=hP.cap;have aQ:=hP.bU;unfold maxLen at aQ;obtain⟨b,hb⟩:=aj w.heap.size;obtain⟨r,hr⟩:=aj (b+1);obtain⟨w1,hw1⟩:=aj (w.alloc (.cells #[.slice (a 0) (D 0) (c 0),.slice (a 1) (D 1) (c 1),.slice (a 2) (D 2) (c 2),.slice (a 3) (D 3) (c 3),.slice (a 4) (D 4) (c 4),.slice (a 5) (D 5) (c 5),.slice (a 6) (D 6) (c 6),.slice (a 7) (D 7) (c 7)] 28));obtain⟨w2,aa⟩:=aj (w1.alloc (.cells #[.slice none 0 0,.slice none 0 0,.slice none 0 0,.slice none 0 0,.slice none 0 0,.slice none 0 0,.slice none 0 0,.slice none 0 0,.int .i64 0,.int .i64 0] 60));have hb1:=dz hw1;have ax:=dz aa;have bz:=sAl hw1;have b2:=sAl aa;have sH:=kX ax (jZ hw1 hb);have aJ:=jZ aa (show r=w1.heap.size by rw[bz,←hb];exact hr);have aF:Hid (Below w.heap.size w w2):=hb1.trans (ax.mono (by omega));have bj:Hid (∀j,j<8→∀q,(VSl a D c j).ownBlock=some q→q<w.heap.size):=fun j hj q hq=>(aw.lt j hj q hq).1;have kJ:Hid (b≠r):=by show b≠r;omega
 have av:=hP.ano aF.out;have bo:=Hd aw;have HP:=Hd av;have bm:=Hd hw1;have bn:=Hd aa;have O:=Hd hb;have bk:=Hd hr;have Iy:=Hd a8;have kH:=Hd a6;have bA:=Hd a7;have b1:b<w2.heap.size:=by omega
 have b3:w2.heap.size=r+1:=by omega
 have ag:=bb i w2 hi av;obtain⟨tt,ai⟩:=ak (iU l i);rw[←ai.out]at ag
 have kI:Hid (R=if tt.2.2≠0 then .bad tt.2.1 tt.2.2 else .ok (cT k tt.1) tt.2.1):=by
  show _=_;rw[HR.out,ai.out]
  rcases hk with rfl|rfl|rfl|rfl
  all_goals
   show(OE l i).map _=_;unfold OE
   split<;>rfl
 obtain⟨t,j,x⟩:=tt;obtain⟨n,hn⟩:=aj l.length;rw[←hn]at ag bu az hi⊢;have JZ:=Hd ag;have kL:k<8:=by omega
 obtain⟨s,hs⟩:=aj (kwS k);have bf:(s.toList==[105,110,105,116])=decide (k=2):=by rw[hs,←an3 kL 2 (by decide),show(kwS 2).toList=[105,110,105,116] by rw[ByteArray.toList_eq];rfl]
 have bg:(s.toList==[105,110,118,97,114])=decide (k=3):=by rw[hs,←an3 kL 3 (by decide),show(kwS 3).toList=[105,110,118,97,114] by rw[ByteArray.toList_eq];rfl]
 have bh:(s.toList==[116,114,97,110,115])=decide (k=5):=by rw[hs,←an3 kL 5 (by decide),show(kwS 5).toList=[116,114,97,110,115] by rw[ByteArray.toList_eq];rfl]
 rw[←hs];clear hs aw hP av hw1 aa hb hr a8 a6 a7 hb1 ax ag hn HR ai bb
 rcases hk with hk|hk|hk|hk
 all_goals
  have HK:=Hd hk;rw[hk]at bf bg bh hlen;simp only[Nat.reduceEqDiff,decide_true,decide_false]at bf bg bh;clear hk;go_in;go_wp2_with fail;rw[←bm.out]
  try rw[←bn.out]
  try rw[←O.out]
  try rw[←bk.out]
  (try go_wp2_with fail);refine(JZ.out).mono ?_;rintro e w3 ⟨A5,c5,rfl,hv,ay⟩;unfold Tm.val;obtain⟨n5,aE⟩:=aj t.kids.length;rw[←aE];obtain⟨z,hz⟩:=aj w3.heap.size;obtain⟨J,ab⟩:=aj (w3.alloc (.cells #[.int .i64 t.op,.int .i64 t.num,.string t.name,.slice A5 n5 c5] 64));have bd:=dz ab;have b4:=ay.size;have ae:Below w2.heap.size w2 J:=ay.trans (bd.mono (by omega));have HM:=kX ae sH;have VW:=kX ae aJ;have HZ:=jZ ab hz;have oU:Hid (Below w.heap.size w J):=aF.trans (ae.mono (by omega));have aS:=Hd ab;have bl:=Hd hz;have HV:=Hd hv;have EP:=Hd aE;have b7:z<J.heap.size∧J.heap.size≤z+1:=by rw[ab,hz];simp
  have b6:w3.heap.size≤z:=Nat.le_of_eq hz.symm
  have bi:Hid (∀q,(F q∨q=b∨q=r∨q=z)→F q∨w.heap.size≤q):=fun q h=>by
   have:=O.out
   rcases h with h|rfl|rfl|rfl
   ·exact .inl h
   ·exact .inr (by omega)
   ·exact .inr (by omega)
   ·exact .inr (by omega)
  have wz:Hid (∀q,(F q∨q=b∨q=r∨q=z)→q<J.heap.size):=fun q h=>by
   rcases h with h|rfl|rfl|rfl
   ·have:=bA.out q h;omega
   ·omega
   ·omega
   ·omega
  have aP:=Hd ((bo.more bi.out).only (Ob oU.out));have HO:Hid (Only (fun q=>B≤q∧¬F q) w J):=Ob oU.out;clear hv ay bd ae ab hz aE sH aJ
  go_upto_if 19 with fail
  rw[←aS.out]
  try rw[←bl.out]
  by_cases hx:x=0
  ·subst hx;have bE:Hid (R=.ok (cT k t) j):=kI.out
   have Ez:Hid (VZ (fun q=>w2.heap.size≤q∧q≠z) J [.int .i64 t.op,.int .i64 t.num,.string t.name,.slice A5 n5 c5] (cT k t)):=by
    have h4:=dz aS.out;show VZ _ _ _ _;rw[HK.out];refine⟨A5,c5,by rw[EP.out],(HV.keep (S':=fun q=>w2.heap.size≤q∧q≠z) Kr (fun q hl hq=>⟨hq,by omega⟩)).keep (Kb h4) (fun _ _ h=>h)⟩
   have JO:Hid (∀q,q<J.heap.size→(w2.heap.size≤q∧q≠z)→w.heap.size≤q∧¬(F q∨q=b∨q=r∨q=z)):=fun q _ h=>by
    refine⟨by omega,fun h9=>?_⟩
    rcases h9 with h9|rfl|rfl|rfl
    ·have:=bA.out q h9;omega
    ·omega
    ·omega
    ·exact h.2 rfl
   obtain⟨i0,br,bC,bJ,bL⟩:=info_parts Cv;have af:=Iy.out k kL;have I:=aP.own k kL;rw[HK.out]at af I Ez;rw[←af]at I
   change J.ownsRow B 64 4 (.slice (a _) (D _) (c _)) (D _) (X _).flatten at I
   have bZ:=wz.out;obtain⟨v0,v1,v2,v3,v4,v5,v6,v7,vf⟩:=q8 HM.out;have bp:=lH HM.out;have bw:=lH VW.out;obtain⟨p0,p1,p2,p3,pf⟩:=q4 HZ.out;obtain⟨wy,ao⟩:=ak (J.alloc (.cells #[.int .i64 t.op,.int .i64 t.num,.string t.name,.slice A5 n5 c5] 64));have FP:=Hd af;clear af
   go_wp2_with (at_builtin;refine wpList_append_lies _ (by rfl) _ _ _ (by rfl) B 64 i0 (.agg #[.int .i64 0,.int .i64 0,.string ⟨#[]⟩,.slice none 0 0]) 4 56 Tryz.underlying25 br bC bJ bL rfl (by decide) _ _ _ (by rfl) (I.alloc _) ⟨J.heap.size,0,none⟩ 1 1 [.int .i64 t.op,.int .i64 t.num,.string t.name,.slice A5 n5 c5] (by rfl) rfl (World.news_of_block (eu J _)) (fun u hu=>by
    simp only[List.mem_cons,List.not_mem_nil,or_false]at hu
    rcases hu with rfl|rfl|rfl|rfl<;>rfl) (by decide) ?c3 ?c4 ?c5 (J.heap.size+1) (by simp) ?_)
   case c3=>unfold maxLen;omega
   case c4=>omega
   case c5=>have:=kH.out;have:=O.out;simp;omega
   intro g cap w6 Y dH pW EG;rw[←ao.out]at dH;obtain⟨uI,ba,ar⟩:=anB (cs:=[.int .i64 t.op,.int .i64 t.num,.string t.name,.slice A5 n5 c5]) (el:=_) aP.out HO.out (fun q h=>.inl h) wz.out kH.out bj.out ao.out (k:=_) (by decide) dH (pW.imp_right fun h=>by rw[h,ao.out];simp) Y (by rw[FP.out]) Ez.out JO.out;have X6:Hid (w6.heap[b]?=some (.cells #[.slice (a 0) (D 0) (c 0),.slice (a 1) (D 1) (c 1),.slice (a 2) (D 2) (c 2),.slice (a 3) (D 3) (c 3),.slice (a 4) (D 4) (c 4),.slice (a 5) (D 5) (c 5),.slice (a 6) (D 6) (c 6),.slice (a 7) (D 7) (c 7)] 28 (0,0))):=(ar b (.inr (.inl rfl))).trans HM.out;have Y6:Hid (w6.heap[r]?=some (.cells #[.slice none 0 0,.slice none 0 0,.slice none 0 0,.slice none 0 0,.slice none 0 0,.slice none 0 0,.slice none 0 0,.slice none 0 0,.int .i64 0,.int .i64 0] 60 (0,0))):=(ar r (.inr (.inr (.inl rfl)))).trans VW.out;have o7:=Hd uI;have Fy:=Hd ba;clear uI ba ar Y dH pW I v0 v1 v2 v3 v4 v5 v6 v7 vf p0 p1 p2 p3 pf;obtain⟨v0,v1,v2,v3,v4,v5,v6,v7,vf⟩:=q8 X6.out;obtain⟨u0,u1,u2,u3,u4,u5,u6,u7,u8,u9,uf⟩:=q10 Y6.out;have b0:b≠r:=kJ.out;have bv:r≠b:=fun h=>kJ.out h.symm;go_wp2_with fail;clear v0 v1 v2 v3 v4 v5 v6 v7 vf u0 u1 u2 u3 u4 u5 u6 u7 u8 u9 uf;refine bR (rc8 ((iw _ _ r _ bv).trans Y6.out)) rfl ?_;rw[HF.out,bE.out,HK.out];have bP:=kH.out;have bW:=O.out
   exact ant o7.out Fy.out (.inr (.inl rfl)) (.inr (.inr (.inl rfl))) (fun q h=>.inl h) ⟨by omega,fun h=>by have:=bA.out b h;omega⟩ ⟨by omega,fun h=>by have:=bA.out r h;omega⟩ (j)
  ·have b5:(x != 0)=true:=by simpa using hx
   have bE:Hid (R=.bad j x):=by show _=_;rw[kI.out,iP hx]
   obtain⟨v0,v1,v2,v3,v4,v5,v6,v7,vf⟩:=q8 HM.out;obtain⟨u0,u1,u2,u3,u4,u5,u6,u7,u8,u9,uf⟩:=q10 VW.out;have bp:=lH HM.out;have bw:=lH VW.out;clear hx;go_wp2_with fail;clear v0 v1 v2 v3 v4 v5 v6 v7 vf u0 u1 u2 u3 u4 u5 u6 u7 u8 u9 uf;refine bR (rcS (W:=J) (V:=VSl a D c) (i:=.int .i64 (j:Nat)) (x:=.int .i64 x) VW.out) rfl ?_;rw[HF.out,bE.out];exact⟨a,D,c,ank (V:=VSl a D c) HO.out ⟨by have:=kH.out;have:=O.out;omega,fun h=>by have:=bA.out r h;have:=O.out;omega⟩,rfl⟩
theorem anC{l:List Tok}{s:Bs}{i j:Nat}{x:ByteArray}(h:sV l s i=.ok x j):j≤l.length:=by
 unfold sV nameP qJ at h
 by_cases h1:jd l i 2=true
 ·rw[iP h1]at h
  by_cases h2:ah l (i+1) 4 s=true
  ·simp only[Rs.then,iP h2]at h
   injection h with _ h3
   have:=dL h2;omega
  ·simp only[Rs.then,iN h2]at h;cases h
 ·rw[iN h1]at h;cases h
theorem anz{l:List Tok}{s:Bs}{i j:Nat}{x:Int}(h:sV l s i=.bad j x):x=16:=by
 unfold sV nameP qJ at h
 by_cases h1:jd l i 2=true
 ·rw[iP h1]at h
  by_cases h2:ah l (i+1) 4 s=true
  ·simp only[Rs.then,iP h2]at h;cases h
  ·simp only[Rs.then,iN h2]at h
   injection h with _ h3
   exact h3.symm
 ·rw[iN h1]at h;injection h with _ h3;exact h3.symm
theorem aoJ(k:Nat)(hk:k=1∨k=4)(l:List Tok)(A:Option Addr)(cA:Nat)(bg:RTk l A cA)(i:Nat)(w:World)(B:Nat)(F:Nat→Prop)(a:Nat→Option Addr)(D c:Nat→Nat)(X:Nat→List (List Value))(G:Nat→List El)(hP:dP w A cA l)(hi:i≤l.length)(aF:RM w B F (VSl a D c) X G)(bd:∀k,k<8→D k=(G k).length)(hlen:D k<64)(ba:B≤w.heap.size)(bb:∀q,F q→q<w.heap.size) :
 Calls Tryz.prog 49 #[.agg #[.slice (a 0) (D 0) (c 0),.slice (a 1) (D 1) (c 1),.slice (a 2) (D 2) (c 2),.slice (a 3) (D 3) (c 3),.slice (a 4) (D 4) (c 4),.slice (a 5) (D 5) (c 5),.slice (a 6) (D 6) (c 6),.slice (a 7) (D 7) (c 7)],.slice A l.length cA,.int .i64 (i:Nat),.bool (decide (k=4))] w (ElQ w B F X G k (elK l k i)):=by
 obtain⟨R,HR⟩:=ak (elK l k i);obtain⟨F0,HF⟩:=ak (ElQ w B F X G k R);rw[←HR.out,←HF.out];have bC:=hP.len;have aS:=hP.cap;have aQ:=hP.bU;unfold maxLen at aQ;obtain⟨b,hb⟩:=aj w.heap.size;obtain⟨r,hr⟩:=aj (b+1);obtain⟨w1,hw1⟩:=aj (w.alloc (.cells #[.slice (a 0) (D 0) (c 0),.slice (a 1) (D 1) (c 1),.slice (a 2) (D 2) (c 2),.slice (a 3) (D 3) (c 3),.slice (a 4) (D 4) (c 4),.slice (a 5) (D 5) (c 5),.slice (a 6) (D 6) (c 6),.slice (a 7) (D 7) (c 7)] 28));obtain⟨w2,ae⟩:=aj (w1.alloc (.cells #[.slice none 0 0,.slice none 0 0,.slice none 0 0,.slice none 0 0,.slice none 0 0,.slice none 0 0,.slice none 0 0,.slice none 0 0,.int .i64 0,.int .i64 0] 60));have hb1:=dz hw1;have aJ:=dz ae;have bL:=sAl hw1;have b5:=sAl ae;have sH:=kX aJ (jZ hw1 hb);have Y:=jZ ae (show r=w1.heap.size by rw[bL,←hb];exact hr);have aw:Hid (Below w.heap.size w w2):=hb1.trans (aJ.mono (by omega));have bn:Hid (∀j,j<8→∀q,(VSl a D c j).ownBlock=some q→q<w.heap.size):=fun j hj q hq=>(aF.lt j hj q hq).1;have kJ:Hid (b≠r):=by show b≠r;omega
 have aE:=hP.ano aw.out;have bw:=Hd aF;have HP:=Hd aE;have br:=Hd hw1;have bu:=Hd ae;have J:=Hd hb;have bo:=Hd hr;have Iy:=Hd bd;have kH:=Hd ba;have bA:=Hd bb;have b4:b<w2.heap.size:=by omega
 have b6:w2.heap.size=r+1:=by omega
 have ab:=anq A cA i l ⟨#[58,61]⟩ w2 aE hi;rw[show bs ⟨#[58,61]⟩=[58,61]from rfl]at ab;have Uc:=Hd bg;have HI:Hid (∀s j,sV l [58,61] i=.ok s j→j≤l.length):=fun s j h=>anC h;have HX:Hid (∀j x,sV l [58,61] i=.bad j x→x=16):=fun j x h=>anz h
 have kI:Hid (R=((sV l [58,61] i).then fun s j=>(OE l j).then fun t k=>.ok (⟨s,t⟩:Df) k).map (cD k)):=by
  show _=_;rw[HR.out]
  rcases hk with rfl|rfl<;>rfl
 obtain⟨rn,bk⟩:=aj (sV l [58,61] i);rw[←bk]at ab HI HX kI;obtain⟨n,HN⟩:=ak l.length;rw[←HN.out]at ab bC aS hi⊢;have bv:=Hd ab;clear aF hP aE hw1 ae hb hr bd ba bb hb1 aJ ab HR bk bg;have kL:k<8:=by omega
 obtain⟨nb,ao⟩:=aj (decide (k=4));rw[←ao]
 rcases hk with hk|hk
 all_goals
  have HK:=Hd hk;rw[hk]at hlen ao;simp only[Nat.reduceEqDiff,decide_true,decide_false]at ao;subst ao;clear hk;go_in;go_wp2_with fail;rw[←br.out]
  try rw[←bu.out]
  try rw[←J.out]
  try rw[←bo.out]
  (try go_wp2_with fail);refine(bv.out).mono ?_
  rcases rn with⟨j0,x0⟩|⟨s,j0⟩
  ·rintro e wq ⟨he,ag⟩;simp only at he;subst he;rw[ag];clear ag;obtain rfl:x0=16:=HX.out j0 x0 rfl;have bE:Hid (R=.bad j0 16):=kI.out;have Ah:Hid (Only (fun q=>B≤q∧¬F q) w w2):=Ob aw.out;obtain⟨v0,v1,v2,v3,v4,v5,v6,v7,vf⟩:=q8 sH.out;obtain⟨u0,u1,u2,u3,u4,u5,u6,u7,u8,u9,uf⟩:=q10 Y.out;have bi:=lH sH.out;have bl:=lH Y.out;go_wp2_with fail;clear v0 v1 v2 v3 v4 v5 v6 v7 vf u0 u1 u2 u3 u4 u5 u6 u7 u8 u9 uf;refine bR (rcS (W:=w2) (V:=VSl a D c) (i:=.int .i64 (j0:Nat)) (x:=.int .i64 16) Y.out) rfl ?_;rw[HF.out,bE.out];exact⟨a,D,c,ank (V:=VSl a D c) Ah.out ⟨by have:=kH.out;have:=J.out;omega,fun h=>by have:=bA.out r h;have:=J.out;omega⟩,rfl⟩
  rintro e wq ⟨he,ag⟩;simp only at he;subst he;rw[ag];clear ag;have bj:=HI.out s j0 rfl;have av:=Uc.out j0 w2 bj HP.out;obtain⟨tt,ax⟩:=ak (iU l j0);rw[←ax.out]at av
  have uU:Hid (R=if tt.2.2≠0 then .bad tt.2.1 tt.2.2 else .ok (cD k ⟨s,tt.1⟩) tt.2.1):=by
   show _=_;rw[kI.out,ax.out];show((OE l j0).then _).map _=_;unfold OE
   split<;>rfl
  obtain⟨t,j,x⟩:=tt;rw[←HN.out]at av;have JZ:=Hd av;clear av ax bj;(try go_wp2_with fail);refine(JZ.out).mono ?_;rintro e w3 ⟨A5,c5,rfl,hv,aP⟩;unfold Tm.val;obtain⟨n5,a6⟩:=aj t.kids.length;rw[←a6];obtain⟨z,hz⟩:=aj w3.heap.size;obtain⟨O,af⟩:=aj (w3.alloc (.cells #[.int .i64 t.op,.int .i64 t.num,.string t.name,.slice A5 n5 c5] 64));have bh:=dz af;have b7:=aP.size;have ai:Below w2.heap.size w2 O:=aP.trans (bh.mono (by omega));have HM:=kX ai sH;have VW:=kX ai Y;have HZ:=jZ af hz;have oU:Hid (Below w.heap.size w O):=aw.trans (ai.mono (by omega));have a8:=Hd af;have bp:=Hd hz;have HV:=Hd hv;have EP:=Hd a6;have cb:z<O.heap.size∧O.heap.size≤z+1:=by rw[af,hz];simp
  have b9:w3.heap.size≤z:=Nat.le_of_eq hz.symm
  have bm:Hid (∀q,(F q∨q=b∨q=r∨q=z)→F q∨w.heap.size≤q):=fun q h=>by
   have:=J.out
   rcases h with h|rfl|rfl|rfl
   ·exact .inl h
   ·exact .inr (by omega)
   ·exact .inr (by omega)
   ·exact .inr (by omega)
  have wz:Hid (∀q,(F q∨q=b∨q=r∨q=z)→q<O.heap.size):=fun q h=>by
   rcases h with h|rfl|rfl|rfl
   ·have:=bA.out q h;omega
   ·omega
   ·omega
   ·omega
  have a7:=Hd ((bw.more bm.out).only (Ob oU.out));have HO:Hid (Only (fun q=>B≤q∧¬F q) w O):=Ob oU.out;clear hv aP bh ai af hz a6 sH Y
  go_upto_if 33 with fail
  rw[←a8.out]
  try rw[←bp.out]
  by_cases hx:x=0
  ·subst hx;have bE:Hid (R=.ok (cD k ⟨s,t⟩) j):=uU.out
   have Ez:Hid (VZ (fun q=>w2.heap.size≤q∧q≠z) O [.string s,.int .i64 t.op,.int .i64 t.num,.string t.name,.slice A5 n5 c5] (cD k ⟨s,t⟩)):=by
    have h4:=dz a8.out;show VZ _ _ _ _;rw[HK.out];refine⟨_,rfl,A5,c5,by rw[EP.out],(HV.keep (S':=fun q=>w2.heap.size≤q∧q≠z) Kr (fun q hl hq=>⟨hq,by omega⟩)).keep (Kb h4) (fun _ _ h=>h)⟩
   have JO:Hid (∀q,q<O.heap.size→(w2.heap.size≤q∧q≠z)→w.heap.size≤q∧¬(F q∨q=b∨q=r∨q=z)):=fun q _ h=>by
    refine⟨by omega,fun h9=>?_⟩
    rcases h9 with h9|rfl|rfl|rfl
    ·have:=bA.out q h9;omega
    ·omega
    ·omega
    ·exact h.2 rfl
   obtain⟨i0,bz,bP,bW,bZ⟩:=info_parts ad9;have ar:=Iy.out k kL;have I:=a7.own k kL;rw[HK.out]at ar I Ez;rw[←ar]at I
   change O.ownsRow B 74 5 (.slice (a _) (D _) (c _)) (D _) (X _).flatten at I
   have b2:=wz.out;obtain⟨v0,v1,v2,v3,v4,v5,v6,v7,vf⟩:=q8 HM.out;have bi:=lH HM.out;have bl:=lH VW.out;obtain⟨p0,p1,p2,p3,pf⟩:=q4 HZ.out;obtain⟨wy,ay⟩:=ak (O.alloc (.cells #[.string s,.int .i64 t.op,.int .i64 t.num,.string t.name,.slice A5 n5 c5] 74));have FP:=Hd ar;clear ar
   go_wp2_with (at_builtin;refine wpList_append_lies _ (by rfl) _ _ _ (by rfl) B 74 i0 (.agg #[.string ⟨#[]⟩,.int .i64 0,.int .i64 0,.string ⟨#[]⟩,.slice none 0 0]) 5 72 Tryz.underlying24 bz bP bW bZ rfl (by decide) _ _ _ (by rfl) (I.alloc _) ⟨O.heap.size,0,none⟩ 1 1 [.string s,.int .i64 t.op,.int .i64 t.num,.string t.name,.slice A5 n5 c5] (by rfl) rfl (World.news_of_block (eu O _)) (fun u hu=>by
    simp only[List.mem_cons,List.not_mem_nil,or_false]at hu
    rcases hu with rfl|rfl|rfl|rfl|rfl<;>rfl) (by decide) ?c3 ?c4 ?c5 (O.heap.size+1) (by simp) ?_)
   case c3=>unfold maxLen;omega
   case c4=>omega
   case c5=>have:=kH.out;have:=J.out;simp;omega
   intro g cap w6 aa dH pW EG;rw[←ay.out]at dH;obtain⟨uI,bf,az⟩:=anB (cs:=[.string s,.int .i64 t.op,.int .i64 t.num,.string t.name,.slice A5 n5 c5]) (el:=_) a7.out HO.out (fun q h=>.inl h) wz.out kH.out bn.out ay.out (k:=_) (by decide) dH (pW.imp_right fun h=>by rw[h,ay.out];simp) aa (by rw[FP.out]) Ez.out JO.out;have X6:Hid (w6.heap[b]?=some (.cells #[.slice (a 0) (D 0) (c 0),.slice (a 1) (D 1) (c 1),.slice (a 2) (D 2) (c 2),.slice (a 3) (D 3) (c 3),.slice (a 4) (D 4) (c 4),.slice (a 5) (D 5) (c 5),.slice (a 6) (D 6) (c 6),.slice (a 7) (D 7) (c 7)] 28 (0,0))):=(az b (.inr (.inl rfl))).trans HM.out;have Y6:Hid (w6.heap[r]?=some (.cells #[.slice none 0 0,.slice none 0 0,.slice none 0 0,.slice none 0 0,.slice none 0 0,.slice none 0 0,.slice none 0 0,.slice none 0 0,.int .i64 0,.int .i64 0] 60 (0,0))):=(az r (.inr (.inr (.inl rfl)))).trans VW.out;have o7:=Hd uI;have Fy:=Hd bf;clear uI bf az aa dH pW I v0 v1 v2 v3 v4 v5 v6 v7 vf p0 p1 p2 p3 pf;obtain⟨v0,v1,v2,v3,v4,v5,v6,v7,vf⟩:=q8 X6.out;obtain⟨u0,u1,u2,u3,u4,u5,u6,u7,u8,u9,uf⟩:=q10 Y6.out;have b3:b≠r:=kJ.out;have bJ:r≠b:=fun h=>kJ.out h.symm;go_wp2_with fail;clear v0 v1 v2 v3 v4 v5 v6 v7 vf u0 u1 u2 u3 u4 u5 u6 u7 u8 u9 uf;refine bR (rc8 ((iw _ _ r _ bJ).trans Y6.out)) rfl ?_;rw[HF.out,bE.out,HK.out];have b0:=kH.out
   have b1:=J.out;exact ant o7.out Fy.out (.inr (.inl rfl)) (.inr (.inr (.inl rfl))) (fun q h=>.inl h) ⟨by omega,fun h=>by have:=bA.out b h;omega⟩ ⟨by omega,fun h=>by have:=bA.out r h;omega⟩ (j)
  ·have b8:(x != 0)=true:=by simpa using hx
   have bE:Hid (R=.bad j x):=by show _=_;rw[uU.out,iP hx]
   clear hx;obtain⟨v0,v1,v2,v3,v4,v5,v6,v7,vf⟩:=q8 HM.out;obtain⟨u0,u1,u2,u3,u4,u5,u6,u7,u8,u9,uf⟩:=q10 VW.out;have bi:=lH HM.out;have bl:=lH VW.out;go_wp2_with fail;clear v0 v1 v2 v3 v4 v5 v6 v7 vf u0 u1 u2 u3 u4 u5 u6 u7 u8 u9 uf;refine bR (rcS (W:=O) (V:=VSl a D c) (i:=.int .i64 (j:Nat)) (x:=.int .i64 x) VW.out) rfl ?_;rw[HF.out,bE.out];exact⟨a,D,c,ank (V:=VSl a D c) HO.out ⟨by have:=kH.out;have:=J.out;omega,fun h=>by have:=bA.out r h;have:=J.out;omega⟩,rfl⟩
def RFk(l:List Tok)(A:Option Addr)(c:Nat):Prop:=∀i W,i≤l.length→dP W A c l→Calls Tryz.prog 95 #[.slice A l.length c,.int .i64 (i:Nat)] W (Yt W (nN l i))
theorem anT(l:List Tok)(A:Option Addr)(cA:Nat)(bf:RFk l A cA)(i:Nat)(w:World)(B:Nat)(F:Nat→Prop)(a:Nat→Option Addr)(I c:Nat→Nat)(X:Nat→List (List Value))(G:Nat→List El)(hP:dP w A cA l)(hi:i≤l.length)(aF:RM w B F (VSl a I c) X G)(bb:∀k,k<8→I k=(G k).length)(hlen:I 7<64)(a8:B≤w.heap.size)(ba:∀q,F q→q<w.heap.size) :
 Calls Tryz.prog 50 #[.agg #[.slice (a 0) (I 0) (c 0),.slice (a 1) (I 1) (c 1),.slice (a 2) (I 2) (c 2),.slice (a 3) (I 3) (c 3),.slice (a 4) (I 4) (c 4),.slice (a 5) (I 5) (c 5),.slice (a 6) (I 6) (c 6),.slice (a 7) (I 7) (c 7)],.slice A l.length cA,.int .i64 (i:Nat)] w (ElQ w B F X G 7 (elK l 7 i)):=by
 obtain⟨R,HR⟩:=ak (elK l 7 i);obtain⟨F0,HF⟩:=ak (ElQ w B F X G 7 R);rw[←HR.out,←HF.out];have bz:=hP.len;have aS:=hP.cap;have aQ:=hP.bU;unfold maxLen at aQ;obtain⟨b,hb⟩:=aj w.heap.size;obtain⟨r,hr⟩:=aj (b+1);obtain⟨w1,hw1⟩:=aj (w.alloc (.cells #[.slice (a 0) (I 0) (c 0),.slice (a 1) (I 1) (c 1),.slice (a 2) (I 2) (c 2),.slice (a 3) (I 3) (c 3),.slice (a 4) (I 4) (c 4),.slice (a 5) (I 5) (c 5),.slice (a 6) (I 6) (c 6),.slice (a 7) (I 7) (c 7)] 28));obtain⟨w2,af⟩:=aj (w1.alloc (.cells #[.slice none 0 0,.slice none 0 0,.slice none 0 0,.slice none 0 0,.slice none 0 0,.slice none 0 0,.slice none 0 0,.slice none 0 0,.int .i64 0,.int .i64 0] 60));have hb1:=dz hw1;have aJ:=dz af;have bJ:=sAl hw1;have b4:=sAl af;have sH:=kX aJ (jZ hw1 hb);have Y:=jZ af (show r=w1.heap.size by rw[bJ,←hb];exact hr);have aw:Hid (Below w.heap.size w w2):=hb1.trans (aJ.mono (by omega));have bm:Hid (∀j,j<8→∀q,(VSl a I c j).ownBlock=some q→q<w.heap.size):=fun j hj q hq=>(aF.lt j hj q hq).1;have kJ:Hid (b≠r):=by show b≠r;omega
 have aE:=hP.ano aw.out;have bv:=Hd aF;have HP:=Hd aE;have bp:=Hd hw1;have br:=Hd af;have J:=Hd hb;have bn:=Hd hr;have Iy:=Hd bb;have kH:=Hd a8;have bA:=Hd ba;have b3:b<w2.heap.size:=by omega
 have b5:w2.heap.size=r+1:=by omega
 have ae:=anq A cA i l ⟨#[58]⟩ w2 aE hi;rw[show bs ⟨#[58]⟩=[58]from rfl]at ae;have Uc:=Hd bf;have HI:Hid (∀s j,sV l [58] i=.ok s j→j≤l.length):=fun s j h=>anC h;have HX:Hid (∀j x,sV l [58] i=.bad j x→x=16):=fun j x h=>anz h;have kI:Hid (R=((sV l [58] i).then fun s j=>(fmP l j).then fun t k=>.ok (⟨s,t⟩:Sp) k).map .spec):=HR.out;obtain⟨rn,bj⟩:=aj (sV l [58] i);rw[←bj]at ae HI HX kI;obtain⟨n,HN⟩:=ak l.length;rw[←HN.out]at ae bz aS hi⊢;have bu:=Hd ae;clear aF hP aE hw1 af hb hr bb a8 ba hb1 aJ ae HR bj bf;go_in;go_wp2_with fail;rw[←bp.out]
 try rw[←br.out]
 try rw[←J.out]
 try rw[←bn.out]
 (try go_wp2_with fail);refine(bu.out).mono ?_
 rcases rn with⟨j0,x0⟩|⟨s,j0⟩
 ·rintro e wq ⟨he,ai⟩;simp only at he;subst he;rw[ai];clear ai;obtain rfl:x0=16:=HX.out j0 x0 rfl;have bE:Hid (R=.bad j0 16):=kI.out;have Ah:Hid (Only (fun q=>B≤q∧¬F q) w w2):=Ob aw.out;obtain⟨v0,v1,v2,v3,v4,v5,v6,v7,vf⟩:=q8 sH.out;obtain⟨u0,u1,u2,u3,u4,u5,u6,u7,u8,u9,uf⟩:=q10 Y.out;have bh:=lH sH.out;have bk:=lH Y.out;go_wp2_with fail;clear v0 v1 v2 v3 v4 v5 v6 v7 vf u0 u1 u2 u3 u4 u5 u6 u7 u8 u9 uf;refine bR (rcS (W:=w2) (V:=VSl a I c) (i:=.int .i64 (j0:Nat)) (x:=.int .i64 16) Y.out) rfl ?_;rw[HF.out,bE.out];exact⟨a,I,c,ank (V:=VSl a I c) Ah.out ⟨by have:=kH.out;have:=J.out;omega,fun h=>by have:=bA.out r h;have:=J.out;omega⟩,rfl⟩
 rintro e wq ⟨he,ai⟩;simp only at he;subst he;rw[ai];clear ai;have bi:=HI.out s j0 rfl;have av:=Uc.out j0 w2 bi HP.out;obtain⟨tt,ax⟩:=ak (nN l j0);rw[←ax.out]at av
 have uU:Hid (R=if tt.2.2≠0 then .bad tt.2.1 tt.2.2 else .ok (.spec ⟨s,tt.1⟩) tt.2.1):=by
  show _=_;rw[kI.out,ax.out];show((fmP l j0).then _).map _=_;unfold fmP
  split<;>rfl
 obtain⟨t,j,x⟩:=tt;rw[←HN.out]at av;have JZ:=Hd av;clear av ax bi;(try go_wp2_with fail);refine(JZ.out).mono ?_;rintro e w3 ⟨D,rfl,hv,aP⟩;unfold FV.val;obtain⟨z,hz⟩:=aj w3.heap.size;obtain⟨O,ag⟩:=aj (w3.alloc (.cells #[.int .i64 D.o,.int .i64 D.tn,.int .i64 D.tm,.string D.s,.slice D.Ae D.ne D.ce,.slice D.A D.n D.c] 67));have bg:=dz ag;have b6:=aP.size;have ao:Below w2.heap.size w2 O:=aP.trans (bg.mono (by omega));have HM:=kX ao sH;have VW:=kX ao Y;have HZ:=jZ ag hz;have oU:Hid (Below w.heap.size w O):=aw.trans (ao.mono (by omega));have a7:=Hd ag;have bo:=Hd hz;have HV:=Hd hv;have b9:z<O.heap.size∧O.heap.size≤z+1:=by rw[ag,hz];simp
 have b8:w3.heap.size≤z:=Nat.le_of_eq hz.symm
 have bl:Hid (∀q,(F q∨q=b∨q=r∨q=z)→F q∨w.heap.size≤q):=fun q h=>by
  have:=J.out
  rcases h with h|rfl|rfl|rfl
  ·exact .inl h
  ·exact .inr (by omega)
  ·exact .inr (by omega)
  ·exact .inr (by omega)
 have wz:Hid (∀q,(F q∨q=b∨q=r∨q=z)→q<O.heap.size):=fun q h=>by
  rcases h with h|rfl|rfl|rfl
  ·have:=bA.out q h;omega
  ·omega
  ·omega
  ·omega
 have a6:=Hd ((bv.more bl.out).only (Ob oU.out));have HO:Hid (Only (fun q=>B≤q∧¬F q) w O):=Ob oU.out;clear hv aP bg ao ag hz sH Y
 go_upto_if 31 with fail
 rw[←a7.out]
 try rw[←bo.out]
 by_cases hx:x=0
 ·subst hx;have bE:Hid (R=.ok (.spec ⟨s,t⟩) j):=uU.out
  have Ez:Hid (VZ (fun q=>w2.heap.size≤q∧q≠z) O [.string s,.int .i64 D.o,.int .i64 D.tn,.int .i64 D.tm,.string D.s,.slice D.Ae D.ne D.ce,.slice D.A D.n D.c] (.spec ⟨s,t⟩)):=by
   have h4:=dz a7.out;exact⟨D,rfl,(HV.keep (S':=fun q=>w2.heap.size≤q∧q≠z) Kr (fun q hl hq=>⟨hq,by omega⟩)).keep (Kb h4) (fun _ _ h=>h)⟩
  have JO:Hid (∀q,q<O.heap.size→(w2.heap.size≤q∧q≠z)→w.heap.size≤q∧¬(F q∨q=b∨q=r∨q=z)):=fun q _ h=>by
   refine⟨by omega,fun h9=>?_⟩
   rcases h9 with h9|rfl|rfl|rfl
   ·have:=bA.out q h9;omega
   ·omega
   ·omega
   ·exact h.2 rfl
  obtain⟨i0,bw,bL,bP,bW⟩:=info_parts ahQ;have ar:=Hd (Iy.out 7 (by decide));have aa:O.ownsRow B 69 7 (.slice (a 7) (I 7) (c 7)) (I 7) (X 7).flatten:=by rw[ar.out];exact(show VSl a I c 7=.slice (a 7) (G 7).length (c 7) by unfold VSl;rw[ar.out]) ▸ a6.own 7 (by decide)
  have b1:=wz.out;obtain⟨v0,v1,v2,v3,v4,v5,v6,v7,vf⟩:=q8 HM.out;have bh:=lH HM.out;have bk:=lH VW.out;obtain⟨p0,p1,p2,p3,p4,p5,pf⟩:=q6 HZ.out;obtain⟨wy,ay⟩:=ak (O.alloc (.cells #[.string s,.int .i64 D.o,.int .i64 D.tn,.int .i64 D.tm,.string D.s,.slice D.Ae D.ne D.ce,.slice D.A D.n D.c] 69))
  go_wp2_with (at_builtin;refine wpList_append_lies _ (by rfl) _ _ _ (by rfl) B 69 i0 (.agg #[.string ⟨#[]⟩,.int .i64 0,.int .i64 0,.int .i64 0,.string ⟨#[]⟩,.slice none 0 0,.slice none 0 0]) 7 104 Tryz.underlying26 bw bL bP bW rfl (by decide) _ (I 7) _ (by rfl) (aa.alloc _) ⟨O.heap.size,0,none⟩ 1 1 [.string s,.int .i64 D.o,.int .i64 D.tn,.int .i64 D.tm,.string D.s,.slice D.Ae D.ne D.ce,.slice D.A D.n D.c] (by rfl) rfl (World.news_of_block (eu O _)) (fun u hu=>by
   simp only[List.mem_cons,List.not_mem_nil,or_false]at hu
   rcases hu with rfl|rfl|rfl|rfl|rfl|rfl|rfl<;>rfl) (by decide) ?c3 ?c4 ?c5 (O.heap.size+1) (by simp) ?_)
  case c3=>unfold maxLen;omega
  case c4=>omega
  case c5=>have:=kH.out;have:=J.out;simp;omega
  intro g cap w6 ab dH pW EG;rw[←ay.out]at dH;obtain⟨uI,bd,az⟩:=anB (cs:=[.string s,.int .i64 D.o,.int .i64 D.tn,.int .i64 D.tm,.string D.s,.slice D.Ae D.ne D.ce,.slice D.A D.n D.c]) (el:=.spec ⟨s,t⟩) (S0:=fun q=>w2.heap.size≤q∧q≠z) a6.out HO.out (fun q h=>.inl h) wz.out kH.out bm.out ay.out (k:=7) (by decide) dH (pW.imp_right fun h=>by rw[h,ay.out];simp) ab (by rw[ar.out]) Ez.out JO.out;have X6:Hid (w6.heap[b]?=some (.cells #[.slice (a 0) (I 0) (c 0),.slice (a 1) (I 1) (c 1),.slice (a 2) (I 2) (c 2),.slice (a 3) (I 3) (c 3),.slice (a 4) (I 4) (c 4),.slice (a 5) (I 5) (c 5),.slice (a 6) (I 6) (c 6),.slice (a 7) (I 7) (c 7)] 28 (0,0))):=(az b (.inr (.inl rfl))).trans HM.out;have Y6:Hid (w6.heap[r]?=some (.cells #[.slice none 0 0,.slice none 0 0,.slice none 0 0,.slice none 0 0,.slice none 0 0,.slice none 0 0,.slice none 0 0,.slice none 0 0,.int .i64 0,.int .i64 0] 60 (0,0))):=(az r (.inr (.inr (.inl rfl)))).trans VW.out;have o7:=Hd uI;have Fy:=Hd bd;clear uI bd az ab dH pW aa ar v0 v1 v2 v3 v4 v5 v6 v7 vf p0 p1 p2 p3 p4 p5 pf;obtain⟨v0,v1,v2,v3,v4,v5,v6,v7,vf⟩:=q8 X6.out;obtain⟨u0,u1,u2,u3,u4,u5,u6,u7,u8,u9,uf⟩:=q10 Y6.out;have b2:b≠r:=kJ.out;have bC:r≠b:=fun h=>kJ.out h.symm;go_wp2_with fail;clear v0 v1 v2 v3 v4 v5 v6 v7 vf u0 u1 u2 u3 u4 u5 u6 u7 u8 u9 uf
  refine bR (rcS (W:=w6.setCell ⟨b,7,none⟩ (.slice (some ⟨g,0,none⟩) (I 7+1) cap)) (V:=VSl (upd a 7 (some ⟨g,0,none⟩)) (upd I 7 (I 7+1)) (upd c 7 cap)) (i:=.int .i64 (j:Nat)) (x:=.int .i64 0) ((iw _ ⟨b,7,none⟩ r _ bC).trans Y6.out)) rfl ?_;rw[HF.out,bE.out];have bZ:=kH.out;have b0:=J.out;exact ant o7.out Fy.out (.inr (.inl rfl)) (.inr (.inr (.inl rfl))) (fun q h=>.inl h) ⟨by omega,fun h=>by have:=bA.out b h;omega⟩ ⟨by omega,fun h=>by have:=bA.out r h;omega⟩ (j)
 ·have b7:(x != 0)=true:=by simpa using hx
  have bE:Hid (R=.bad j x):=by show _=_;rw[uU.out,iP hx]
  clear hx;obtain⟨v0,v1,v2,v3,v4,v5,v6,v7,vf⟩:=q8 HM.out;obtain⟨u0,u1,u2,u3,u4,u5,u6,u7,u8,u9,uf⟩:=q10 VW.out;have bh:=lH HM.out;have bk:=lH VW.out;go_wp2_with fail;clear v0 v1 v2 v3 v4 v5 v6 v7 vf u0 u1 u2 u3 u4 u5 u6 u7 u8 u9 uf;refine bR (rcS (W:=O) (V:=VSl a I c) (i:=.int .i64 (j:Nat)) (x:=.int .i64 x) VW.out) rfl ?_;rw[HF.out,bE.out];exact⟨a,I,c,ank (V:=VSl a I c) HO.out ⟨by have:=kH.out;have:=J.out;omega,fun h=>by have:=bA.out r h;have:=J.out;omega⟩,rfl⟩
end Go.Proofs.YtkhoeoilamddaaaGreatDoor
