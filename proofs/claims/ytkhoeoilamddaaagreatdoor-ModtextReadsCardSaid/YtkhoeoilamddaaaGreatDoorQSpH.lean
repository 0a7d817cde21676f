/- Walks and plain words: SpH SpI. -/
import Derived.Test.YtkhoeoilamddaaaGreatDoorQSpE
namespace Go.Proofs.YtkhoeoilamddaaaGreatDoor
open Go.RowKit
set_option linter.unusedVariables false
set_option maxRecDepth 100000
set_option maxHeartbeats 16000000
theorem an7{l:List Tok}{i j:Nat}{x:Int}(h:GK l i=.ok x j):j≤l.length:=by
 unfold GK at h
 have G:∀p,jd l p 1=true→p<l.length:=fun p hp=>by
  unfold jd at hp
  rcases Nat.lt_or_ge p l.length with D|D
  ·exact D
  ·rw[List.getElem?_eq_none D]at hp;cases hp
 split at h
 ·split at h
  ·rename_i h1;injection h with _ h2;have:=G _ h1;omega
  ·cases h
 ·split at h
  ·rename_i h1;injection h with _ h2;have:=G _ h1;omega
  ·cases h
theorem an2{l:List Tok}{i j:Nat}{x:Int}(h:GK l i=.bad j x):x=16:=by
 unfold GK at h
 split at h
 ·split at h
  ·cases h
  ·injection h with _ h2;exact h2.symm
 ·split at h
  ·cases h
  ·injection h with _ h2;exact h2.symm
theorem anI{W:World}{z k:Nat}{D G I J v:Value}{T:TypeId}(h:W.heap[z]?=some (.cells #[D,G,I,J] T (0,0)))(O:k<4):(W.setCell ⟨z,k,none⟩ v).heap[z]?=some (.cells (#[D,G,I,J].setIfInBounds k v) T (0,0)):=by
 simp[World.setCell,Array.getElem?_modify,h]
theorem anJ(l:List Tok)(A:Option Addr)(cA:Nat)(i:Nat)(w:World)(B:Nat)(F:Nat→Prop)(a:Nat→Option Addr)(D c:Nat→Nat)(X:Nat→List (List Value))(G:Nat→List El)(hP:dP w A cA l)(hi:i≤l.length)(bj:RM w B F (VSl a D c) X G)(bC:∀k,k<8→D k=(G k).length)(hlen:D 0<64)(bw:B≤w.heap.size)(bz:∀q,F q→q<w.heap.size) :
 Calls Tryz.prog 48 #[.agg #[.slice (a 0) (D 0) (c 0),.slice (a 1) (D 1) (c 1),.slice (a 2) (D 2) (c 2),.slice (a 3) (D 3) (c 3),.slice (a 4) (D 4) (c 4),.slice (a 5) (D 5) (c 5),.slice (a 6) (D 6) (c 6),.slice (a 7) (D 7) (c 7)],.slice A l.length cA,.int .i64 (i:Nat)] w (ElQ w B F X G 0 (elK l 0 i)):=by
 obtain⟨R,HR⟩:=ak (elK l 0 i);obtain⟨F0,HF⟩:=ak (ElQ w B F X G 0 R);rw[←HR.out,←HF.out];have cg:=hP.len;have bl:=hP.cap;have aQ:=hP.bU;unfold maxLen at aQ;obtain⟨b,hb⟩:=aj w.heap.size;obtain⟨r,hr⟩:=aj (b+1);obtain⟨w1,hw1⟩:=aj (w.alloc (.cells #[.slice (a 0) (D 0) (c 0),.slice (a 1) (D 1) (c 1),.slice (a 2) (D 2) (c 2),.slice (a 3) (D 3) (c 3),.slice (a 4) (D 4) (c 4),.slice (a 5) (D 5) (c 5),.slice (a 6) (D 6) (c 6),.slice (a 7) (D 7) (c 7)] 28));obtain⟨w2,ba⟩:=aj (w1.alloc (.cells #[.slice none 0 0,.slice none 0 0,.slice none 0 0,.slice none 0 0,.slice none 0 0,.slice none 0 0,.slice none 0 0,.slice none 0 0,.int .i64 0,.int .i64 0] 60));have hb1:=dz hw1;have bk:=dz ba;have ax:=sAl hw1;have ch:=sAl ba;have sH:=kX bk (jZ hw1 hb);have bd:=jZ ba (show r=w1.heap.size by rw[ax,←hb];exact hr);have bf:Hid (Below w.heap.size w w2):=hb1.trans (bk.mono (by omega));have bv:Hid (∀j,j<8→∀q,(VSl a D c j).ownBlock=some q→q<w.heap.size):=fun j hj q hq=>(bj.lt j hj q hq).1;have kJ:Hid (b≠r):=by show b≠r;omega
 have aP:=hP.ano bf.out;have b6:=Hd bj;have HP:=Hd aP;have b2:=Hd hw1;have b3:=Hd ba;have ae:=Hd hb;have b0:=Hd hr;have Iy:=Hd bC;have kH:=Hd bw;have bA:=Hd bz;have cn:b<w2.heap.size:=by omega
 have ci:w2.heap.size=r+1:=by omega
 have a7:=anq A cA i l ⟨#[58]⟩ w2 aP hi;rw[show bs ⟨#[58]⟩=[58]from rfl]at a7;have HI:Hid (∀s j,sV l [58] i=.ok s j→j≤l.length):=fun s j h=>anC h;have HX:Hid (∀j x,sV l [58] i=.bad j x→x=16):=fun j x h=>anz h;have bh:Hid (∀j W,j≤l.length→Below w2.heap.size w2 W→Calls Tryz.prog 93 #[.slice A l.length cA,.int .i64 (j:Nat)] W (QvQ (Value.int .i64) (.int .i64 0) (GK l j) W)):=fun j W hj hb=>anN A cA j l W (aP.ano hb) hj;have bg:Hid (∀j kd (s:ByteArray) W,j≤l.length→Below w2.heap.size w2 W→Calls Tryz.prog 52 #[.slice A l.length cA,.int .i64 (j:Nat),.int .i64 kd,.string s] W fun e w'=>e=.returned (.bool (ah l j kd (bs s)))∧w'=W):=fun j kd s W hj hb=>anA A cA j l kd s W (aP.ano hb) (by omega);have kI:Hid (R=(OD l i).map .var):=HR.out;unfold OD at kI;obtain⟨rn,bP⟩:=aj (sV l [58] i);rw[←bP]at a7 HI HX kI;obtain⟨n,hn⟩:=aj l.length;have bZ:Hid (∀j x k,GK l j=.ok x k→k≤n):=fun j x k h=>by rw[hn];exact an7 h
 rw[←hn]at a7 cg bl hi HI bh bg⊢;have b5:=Hd a7;have cr:r<w2.heap.size∧w2.heap.size≤r+1∧b<r∧w.heap.size≤b∧w.heap.size≤w2.heap.size:=by omega
 have HN:=Hd hn;clear bj hP aP hw1 ba hb hr bC bw bz hb1 bk a7 hn HR bP ax ch ci;go_in;go_wp2_with fail;rw[←b2.out]
 try rw[←b3.out]
 try rw[←ae.out]
 try rw[←b0.out]
 (try go_wp2_with fail);refine(b5.out).mono ?_
 rcases rn with⟨j0,x0⟩|⟨s,j0⟩
 ·rintro e wq ⟨he,J⟩;simp only at he;subst he;rw[J];clear J;obtain rfl:x0=16:=HX.out j0 x0 rfl;have bE:Hid (R=.bad j0 16):=kI.out;have Ah:Hid (Only (fun q=>B≤q∧¬F q) w w2):=Ob bf.out;obtain⟨v0,v1,v2,v3,v4,v5,v6,v7,vf⟩:=q8 sH.out;obtain⟨u0,u1,u2,u3,u4,u5,u6,u7,u8,u9,uf⟩:=q10 bd.out;have a6:=lH sH.out;have a8:=lH bd.out;go_wp2_with fail;clear v0 v1 v2 v3 v4 v5 v6 v7 vf u0 u1 u2 u3 u4 u5 u6 u7 u8 u9 uf;refine bR (rcS (W:=w2) (V:=VSl a D c) (i:=.int .i64 (j0:Nat)) (x:=.int .i64 16) bd.out) rfl ?_;rw[HF.out,bE.out];exact⟨a,D,c,ank (V:=VSl a D c) Ah.out ⟨by have:=kH.out;have:=ae.out;omega,fun h=>by have:=bA.out r h;have:=ae.out;omega⟩,rfl⟩
 rintro e wq ⟨he,J⟩;simp only at he;subst he;rw[J];clear J;have cf:=HI.out s j0 rfl;obtain⟨z,hz⟩:=aj w2.heap.size;obtain⟨w3,bb⟩:=aj (w2.alloc (.cells #[.string s,.bool false,.int .i64 0,.int .i64 0] 45));have aS:=dz bb;have cj:=sAl bb;have HM:=kX aS sH;have VW:=kX aS bd;have HZ:=jZ bb hz;have ay:Hid (w2.heap.size≤z):=Nat.le_of_eq hz.symm;have ck:z≤r+1∧r<z:=by omega
 have oU:Hid (Below w.heap.size w w3):=bf.trans (aS.mono (by omega));have af:=Hd aS;have b4:=Hd bb;have b1:=Hd hz;have ct:z<w3.heap.size∧w3.heap.size≤z+1:=by omega
 have cv:b<z∧r<z:=by omega
 have bW:Hid (∀q,(F q∨q=b∨q=r∨q=z)→F q∨w.heap.size≤q):=fun q h=>by
  have:=ae.out
  rcases h with h|rfl|rfl|rfl
  ·exact .inl h
  ·exact .inr (by omega)
  ·exact .inr (by omega)
  ·exact .inr (by omega)
 have wz:Hid (∀q,(F q∨q=b∨q=r∨q=z)→q<w3.heap.size):=fun q h=>by
  rcases h with h|rfl|rfl|rfl
  ·have:=bA.out q h;omega
  ·omega
  ·omega
  ·omega
 have ag:=Hd ((b6.more bW.out).only (Ob oU.out));have HO:Hid (Only (fun q=>B≤q∧¬F q) w w3):=Ob oU.out;have az:Hid (B≤z∧¬F z):=⟨by have:=kH.out;have:=ae.out;omega,fun h=>by have:=bA.out z h;have:=ae.out;omega⟩;have bo:=bg.out j0 3 ⟨#[98,111,111,108]⟩ w3 cf af.out;rw[show bs ⟨#[98,111,111,108]⟩=[98,111,111,108]from rfl]at bo;have Eh:=Hd bo;have ai:z≠b∧z≠r:=by omega
 obtain⟨y0,y1,y2,y3,yf⟩:=q4 HZ.out;clear bb hz aS cj ck bo HI HX;go_wp2_with fail;rw[←b4.out]
 try rw[←b1.out]
 refine(Eh.out).mono ?_;rintro e wq ⟨he,J⟩;subst he;rw[J];clear J;cases hbo:ah l j0 3 [98,111,111,108]
 case true=>
  have aE:ah l j0 3 vP=true:=hbo
  have bE:Hid (R=.ok (.var ⟨s,true,0,0⟩) (j0+1)):=by
   show _=_;rw[kI.out];simp only[Rs.then,Rs.map,aE,if_true]
  obtain⟨O,I⟩:=aj (w3.setCell ⟨z,1,none⟩ (.bool true));have aF:=Hd I;replace HM:Hid (O.heap[b]?=some (.cells #[.slice (a 0) (D 0) (c 0),.slice (a 1) (D 1) (c 1),.slice (a 2) (D 2) (c 2),.slice (a 3) (D 3) (c 3),.slice (a 4) (D 4) (c 4),.slice (a 5) (D 5) (c 5),.slice (a 6) (D 6) (c 6),.slice (a 7) (D 7) (c 7)] 28 (0,0))):=by show _=_;rw[I,iw _ ⟨z,1,none⟩ b _ (fun e=>ai.1 e.symm)];exact HM.out
  replace VW:Hid (O.heap[r]?=some (.cells #[.slice none 0 0,.slice none 0 0,.slice none 0 0,.slice none 0 0,.slice none 0 0,.slice none 0 0,.slice none 0 0,.slice none 0 0,.int .i64 0,.int .i64 0] 60 (0,0))):=by show _=_;rw[I,iw _ ⟨z,1,none⟩ r _ (fun e=>ai.2 e.symm)];exact VW.out
  replace HZ:Hid (O.heap[z]?=some (.cells #[.string s,.bool true,.int .i64 0,.int .i64 0] 45 (0,0))):=by show _=_;rw[I];exact anI HZ.out (k:=1) (by decide)
  replace wz:Hid (∀q,(F q∨q=b∨q=r∨q=z)→q<O.heap.size):=fun q h=>by rw[I];have:=wz.out q h;simpa[World.setCell]using this
  replace ag:Hid (RM O B (fun q=>F q∨q=b∨q=r∨q=z) (VSl a D c) X G):=by rw[I];exact ag.only ((⟨rfl,rfl,rfl,lr _,fun _ _ _=>rfl⟩:Only _ w3 w3).bq (b:=z) (o:=1) (.inr (.inr (.inr rfl))) _)
  replace HO:Hid (Only (fun q=>B≤q∧¬F q) w O):=by rw[I];exact HO.bq (b:=z) (o:=1) az.out _
  replace af:Hid (Below w2.heap.size w2 O):=by rw[I];exact af.setCell (p:=⟨z,1,none⟩) ay.out _
  clear I;have Ez:Hid (VZ (fun q=>False) O [.string s,.bool true,.int .i64 0,.int .i64 0] (.var ⟨s,true,0,0⟩)):=rfl;have JO:Hid (∀q,q<O.heap.size→False→w.heap.size≤q∧¬(F q∨q=b∨q=r∨q=z)):=fun q _ h=>h.elim;clear hbo aE
  go_upto_region 16 with fail
  rw[←aF.out];clear y0 y1 y2 y3 yf;obtain⟨i0,bm,bp,br,bu⟩:=info_parts ahP;have ao:=Hd (Iy.out 0 (by decide));have aa:O.ownsRow B 45 4 (.slice (a 0) (D 0) (c 0)) (D 0) (X 0).flatten:=by rw[ao.out];exact(show VSl a D c 0=.slice (a 0) (G 0).length (c 0) by unfold VSl;rw[ao.out]) ▸ ag.own 0 (by decide)
  have cc:=wz.out;obtain⟨v0,v1,v2,v3,v4,v5,v6,v7,vf⟩:=q8 HM.out;have a6:=lH HM.out;have a8:=lH VW.out;obtain⟨p0,p1,p2,p3,pf⟩:=q4 HZ.out;obtain⟨wy,ar⟩:=ak (O.alloc (.cells #[.string s,.bool true,.int .i64 0,.int .i64 0] 45))
  go_wp2_with (at_builtin;refine wpList_append_lies _ (by rfl) _ _ _ (by rfl) B 45 i0 (.agg #[.string ⟨#[]⟩,.bool false,.int .i64 0,.int .i64 0]) 4 40 Tryz.underlying23 bm bp br bu rfl (by decide) _ (D 0) _ (by rfl) (aa.alloc _) ⟨O.heap.size,0,none⟩ 1 1 [.string s,.bool true,.int .i64 0,.int .i64 0] (by rfl) rfl (World.news_of_block (eu O _)) (fun u hu=>by
   simp only[List.mem_cons,List.not_mem_nil,or_false]at hu
   rcases hu with rfl|rfl|rfl|rfl<;>rfl) (by decide) ?c3 ?c4 ?c5 (O.heap.size+1) (by simp) ?_)
  case c3=>unfold maxLen;omega
  case c4=>omega
  case c5=>have:=kH.out;have:=ae.out;simp;omega
  intro g cap w6 ab dH pW EG;rw[←ar.out]at dH;obtain⟨uI,aJ,av⟩:=anB (cs:=[.string s,.bool true,.int .i64 0,.int .i64 0]) (el:=.var ⟨s,true,0,0⟩) (S0:=fun q=>False) ag.out HO.out (fun q h=>.inl h) wz.out kH.out bv.out ar.out (k:=0) (by decide) dH (pW.imp_right fun h=>by rw[h,ar.out];simp) ab (by rw[ao.out]) Ez.out JO.out;have X6:Hid (w6.heap[b]?=some (.cells #[.slice (a 0) (D 0) (c 0),.slice (a 1) (D 1) (c 1),.slice (a 2) (D 2) (c 2),.slice (a 3) (D 3) (c 3),.slice (a 4) (D 4) (c 4),.slice (a 5) (D 5) (c 5),.slice (a 6) (D 6) (c 6),.slice (a 7) (D 7) (c 7)] 28 (0,0))):=(av b (.inr (.inl rfl))).trans HM.out;have Y6:Hid (w6.heap[r]?=some (.cells #[.slice none 0 0,.slice none 0 0,.slice none 0 0,.slice none 0 0,.slice none 0 0,.slice none 0 0,.slice none 0 0,.slice none 0 0,.int .i64 0,.int .i64 0] 60 (0,0))):=(av r (.inr (.inr (.inl rfl)))).trans VW.out;have o7:=Hd uI;have Fy:=Hd aJ;clear uI aJ av ab dH pW aa ao v0 v1 v2 v3 v4 v5 v6 v7 vf p0 p1 p2 p3 pf;obtain⟨v0,v1,v2,v3,v4,v5,v6,v7,vf⟩:=q8 X6.out;obtain⟨u0,u1,u2,u3,u4,u5,u6,u7,u8,u9,uf⟩:=q10 Y6.out;have cd:b≠r:=kJ.out;have bn:r≠b:=fun h=>kJ.out h.symm;go_wp2_with fail;clear v0 v1 v2 v3 v4 v5 v6 v7 vf u0 u1 u2 u3 u4 u5 u6 u7 u8 u9 uf
  refine bR (rcS (W:=w6.setCell ⟨b,0,none⟩ (.slice (some ⟨g,0,none⟩) (D 0+1) cap)) (V:=VSl (upd a 0 (some ⟨g,0,none⟩)) (upd D 0 (D 0+1)) (upd c 0 cap)) (i:=.int .i64 (j0+1:Nat)) (x:=.int .i64 0) ((iw _ ⟨b,0,none⟩ r _ bn).trans Y6.out)) rfl ?_;rw[HF.out,bE.out];have b9:=kH.out;have cb:=ae.out;exact ant o7.out Fy.out (.inr (.inl rfl)) (.inr (.inr (.inl rfl))) (fun q h=>.inl h) ⟨by omega,fun h=>by have:=bA.out b h;omega⟩ ⟨by omega,fun h=>by have:=bA.out r h;omega⟩ (j0+1)
 case false=>
  have aE:¬ah l j0 3 vP=true:=fun h=>by rw[show ah l j0 3 vP=ah l j0 3 [98,111,111,108]from rfl,hbo]at h;cases h
  have uU:Hid (R=((GK l j0).then fun a k=>(qJ l k 4 [46,46]).then fun _ m=>(GK l m).then fun b n=>.ok (⟨s,false,a,b⟩:Vr) n).map .var):=by
   show _=_;rw[kI.out];simp only[Rs.then,iN aE]
  have aw:=bh.out j0 w3 (by have:=HN.out;omega) af.out;have QW:Hid (∀x k,GK l j0=.ok x k→k≤n):=fun x k h=>bZ.out j0 x k h;have yJ:Hid (∀k x,GK l j0=.bad k x→x=16):=fun k x h=>an2 h;obtain⟨r1,bJ⟩:=aj (GK l j0);rw[←bJ]at aw uU QW yJ;have b7:=Hd aw;clear hbo aE aw bJ kI;go_wp2_with fail;refine(b7.out).mono ?_
  rcases r1 with⟨j1,x1⟩|⟨a0,j1⟩
  ·rintro e wq ⟨he,J⟩;simp only at he;subst he;rw[J];clear J;obtain rfl:x1=16:=yJ.out j1 x1 rfl;have bE:Hid (R=.bad j1 16):=uU.out;obtain⟨O,I⟩:=aj (w3.setCell ⟨z,2,none⟩ (.int .i64 0));have aF:=Hd I;replace HM:Hid (O.heap[b]?=some (.cells #[.slice (a 0) (D 0) (c 0),.slice (a 1) (D 1) (c 1),.slice (a 2) (D 2) (c 2),.slice (a 3) (D 3) (c 3),.slice (a 4) (D 4) (c 4),.slice (a 5) (D 5) (c 5),.slice (a 6) (D 6) (c 6),.slice (a 7) (D 7) (c 7)] 28 (0,0))):=by show _=_;rw[I,iw _ ⟨z,2,none⟩ b _ (fun e=>ai.1 e.symm)];exact HM.out
   replace VW:Hid (O.heap[r]?=some (.cells #[.slice none 0 0,.slice none 0 0,.slice none 0 0,.slice none 0 0,.slice none 0 0,.slice none 0 0,.slice none 0 0,.slice none 0 0,.int .i64 0,.int .i64 0] 60 (0,0))):=by show _=_;rw[I,iw _ ⟨z,2,none⟩ r _ (fun e=>ai.2 e.symm)];exact VW.out
   replace HZ:Hid (O.heap[z]?=some (.cells #[.string s,.bool false,.int .i64 0,.int .i64 0] 45 (0,0))):=by show _=_;rw[I];exact anI HZ.out (k:=2) (by decide)
   replace wz:Hid (∀q,(F q∨q=b∨q=r∨q=z)→q<O.heap.size):=fun q h=>by rw[I];have:=wz.out q h;simpa[World.setCell]using this
   replace ag:Hid (RM O B (fun q=>F q∨q=b∨q=r∨q=z) (VSl a D c) X G):=by rw[I];exact ag.only ((⟨rfl,rfl,rfl,lr _,fun _ _ _=>rfl⟩:Only _ w3 w3).bq (b:=z) (o:=2) (.inr (.inr (.inr rfl))) _)
   replace HO:Hid (Only (fun q=>B≤q∧¬F q) w O):=by rw[I];exact HO.bq (b:=z) (o:=2) az.out _
   replace af:Hid (Below w2.heap.size w2 O):=by rw[I];exact af.setCell (p:=⟨z,2,none⟩) ay.out _
   clear I
   go_upto_if 39 with fail
   rw[←aF.out];clear y0 y1 y2 y3 yf;obtain⟨v0,v1,v2,v3,v4,v5,v6,v7,vf⟩:=q8 HM.out;obtain⟨u0,u1,u2,u3,u4,u5,u6,u7,u8,u9,uf⟩:=q10 VW.out;have a6:=lH HM.out;have a8:=lH VW.out;go_wp2_with fail;clear v0 v1 v2 v3 v4 v5 v6 v7 vf u0 u1 u2 u3 u4 u5 u6 u7 u8 u9 uf;refine bR (rcS (W:=O) (V:=VSl a D c) (i:=.int .i64 (j1:Nat)) (x:=.int .i64 16) VW.out) rfl ?_;rw[HF.out,bE.out];exact⟨a,D,c,ank (V:=VSl a D c) HO.out ⟨by have:=kH.out;have:=ae.out;omega,fun h=>by have:=bA.out r h;have:=ae.out;omega⟩,rfl⟩
  rintro e wq ⟨he,J⟩;simp only at he;subst he;rw[J];clear J;have cp:=QW.out a0 j1 rfl;obtain⟨O,I⟩:=aj (w3.setCell ⟨z,2,none⟩ (.int .i64 a0));have aF:=Hd I;replace HM:Hid (O.heap[b]?=some (.cells #[.slice (a 0) (D 0) (c 0),.slice (a 1) (D 1) (c 1),.slice (a 2) (D 2) (c 2),.slice (a 3) (D 3) (c 3),.slice (a 4) (D 4) (c 4),.slice (a 5) (D 5) (c 5),.slice (a 6) (D 6) (c 6),.slice (a 7) (D 7) (c 7)] 28 (0,0))):=by show _=_;rw[I,iw _ ⟨z,2,none⟩ b _ (fun e=>ai.1 e.symm)];exact HM.out
  replace VW:Hid (O.heap[r]?=some (.cells #[.slice none 0 0,.slice none 0 0,.slice none 0 0,.slice none 0 0,.slice none 0 0,.slice none 0 0,.slice none 0 0,.slice none 0 0,.int .i64 0,.int .i64 0] 60 (0,0))):=by show _=_;rw[I,iw _ ⟨z,2,none⟩ r _ (fun e=>ai.2 e.symm)];exact VW.out
  replace HZ:Hid (O.heap[z]?=some (.cells #[.string s,.bool false,.int .i64 a0,.int .i64 0] 45 (0,0))):=by show _=_;rw[I];exact anI HZ.out (k:=2) (by decide)
  replace wz:Hid (∀q,(F q∨q=b∨q=r∨q=z)→q<O.heap.size):=fun q h=>by rw[I];have:=wz.out q h;simpa[World.setCell]using this
  replace ag:Hid (RM O B (fun q=>F q∨q=b∨q=r∨q=z) (VSl a D c) X G):=by rw[I];exact ag.only ((⟨rfl,rfl,rfl,lr _,fun _ _ _=>rfl⟩:Only _ w3 w3).bq (b:=z) (o:=2) (.inr (.inr (.inr rfl))) _)
  replace HO:Hid (Only (fun q=>B≤q∧¬F q) w O):=by rw[I];exact HO.bq (b:=z) (o:=2) az.out _
  replace af:Hid (Below w2.heap.size w2 O):=by rw[I];exact af.setCell (p:=⟨z,2,none⟩) ay.out _
  clear I
  go_upto_if 39 with fail
  rw[←aF.out];clear y0 y1 y2 y3 yf;have ax:=bg.out j1 4 ⟨#[46,46]⟩ O (by have:=HN.out;omega) af.out;rw[show bs ⟨#[46,46]⟩=[46,46]from rfl]at ax;have Gq:=Hd ax;clear ax;go_wp2_with fail;refine(Gq.out).mono ?_;rintro e wq ⟨he,J⟩;subst he;rw[J];clear J;cases hdd:ah l j1 4 [46,46]
  case false=>
   have bE:Hid (R=.bad j1 16):=by
    show _=_;rw[uU.out];simp only[Rs.then,Rs.map,qJ,hdd,Bool.false_eq_true,if_false]
   clear hdd;obtain⟨v0,v1,v2,v3,v4,v5,v6,v7,vf⟩:=q8 HM.out;obtain⟨u0,u1,u2,u3,u4,u5,u6,u7,u8,u9,uf⟩:=q10 VW.out;have a6:=lH HM.out;have a8:=lH VW.out;go_wp2_with fail;clear v0 v1 v2 v3 v4 v5 v6 v7 vf u0 u1 u2 u3 u4 u5 u6 u7 u8 u9 uf;refine bR (rcS (W:=O) (V:=VSl a D c) (i:=.int .i64 (j1:Nat)) (x:=.int .i64 16) VW.out) rfl ?_;rw[HF.out,bE.out];exact⟨a,D,c,ank (V:=VSl a D c) HO.out ⟨by have:=kH.out;have:=ae.out;omega,fun h=>by have:=bA.out r h;have:=ae.out;omega⟩,rfl⟩
  case true=>
   have cq:j1+1≤n:=by have:=dL hdd;have:=HN.out;omega
   have dJ:Hid (R=((GK l (j1+1)).then fun b n=>.ok (⟨s,false,a0,b⟩:Vr) n).map .var):=by
    show _=_;rw[uU.out];simp only[Rs.then,qJ,hdd,if_true]
   have aw:=bh.out (j1+1) O (by have:=HN.out;omega) af.out;have FK:Hid (∀k x,GK l (j1+1)=.bad k x→x=16):=fun k x h=>an2 h;obtain⟨r2,bL⟩:=aj (GK l (j1+1));rw[←bL]at aw dJ FK;have b8:=Hd aw;clear hdd aw bL uU;obtain⟨y0,y1,y2,y3,yf⟩:=q4 HZ.out;go_wp2_with fail;refine(b8.out).mono ?_
   rcases r2 with⟨j2,x2⟩|⟨a2,j2⟩
   ·rintro e wq ⟨he,J⟩;simp only at he;subst he;rw[J];clear J;obtain rfl:x2=16:=FK.out j2 x2 rfl;have bE:Hid (R=.bad j2 16):=dJ.out;obtain⟨w5,Y⟩:=aj (O.setCell ⟨z,3,none⟩ (.int .i64 0));have bi:=Hd Y;replace HM:Hid (w5.heap[b]?=some (.cells #[.slice (a 0) (D 0) (c 0),.slice (a 1) (D 1) (c 1),.slice (a 2) (D 2) (c 2),.slice (a 3) (D 3) (c 3),.slice (a 4) (D 4) (c 4),.slice (a 5) (D 5) (c 5),.slice (a 6) (D 6) (c 6),.slice (a 7) (D 7) (c 7)] 28 (0,0))):=by show _=_;rw[Y,iw _ ⟨z,3,none⟩ b _ (fun e=>ai.1 e.symm)];exact HM.out
    replace VW:Hid (w5.heap[r]?=some (.cells #[.slice none 0 0,.slice none 0 0,.slice none 0 0,.slice none 0 0,.slice none 0 0,.slice none 0 0,.slice none 0 0,.slice none 0 0,.int .i64 0,.int .i64 0] 60 (0,0))):=by show _=_;rw[Y,iw _ ⟨z,3,none⟩ r _ (fun e=>ai.2 e.symm)];exact VW.out
    replace HZ:Hid (w5.heap[z]?=some (.cells #[.string s,.bool false,.int .i64 a0,.int .i64 0] 45 (0,0))):=by show _=_;rw[Y];exact anI HZ.out (k:=3) (by decide)
    replace wz:Hid (∀q,(F q∨q=b∨q=r∨q=z)→q<w5.heap.size):=fun q h=>by rw[Y];have:=wz.out q h;simpa[World.setCell]using this
    replace ag:Hid (RM w5 B (fun q=>F q∨q=b∨q=r∨q=z) (VSl a D c) X G):=by rw[Y];exact ag.only ((⟨rfl,rfl,rfl,lr _,fun _ _ _=>rfl⟩:Only _ O O).bq (b:=z) (o:=3) (.inr (.inr (.inr rfl))) _)
    replace HO:Hid (Only (fun q=>B≤q∧¬F q) w w5):=by rw[Y];exact HO.bq (b:=z) (o:=3) az.out _
    replace af:Hid (Below w2.heap.size w2 w5):=by rw[Y];exact af.setCell (p:=⟨z,3,none⟩) ay.out _
    clear Y
    go_upto_if 60 with fail
    rw[←bi.out];clear y0 y1 y2 y3 yf;obtain⟨v0,v1,v2,v3,v4,v5,v6,v7,vf⟩:=q8 HM.out;obtain⟨u0,u1,u2,u3,u4,u5,u6,u7,u8,u9,uf⟩:=q10 VW.out;have a6:=lH HM.out;have a8:=lH VW.out;go_wp2_with fail;clear v0 v1 v2 v3 v4 v5 v6 v7 vf u0 u1 u2 u3 u4 u5 u6 u7 u8 u9 uf;refine bR (rcS (W:=w5) (V:=VSl a D c) (i:=.int .i64 (j2:Nat)) (x:=.int .i64 16) VW.out) rfl ?_;rw[HF.out,bE.out];exact⟨a,D,c,ank (V:=VSl a D c) HO.out ⟨by have:=kH.out;have:=ae.out;omega,fun h=>by have:=bA.out r h;have:=ae.out;omega⟩,rfl⟩
   ·rintro e wq ⟨he,J⟩;simp only at he;subst he;rw[J];clear J;have bE:Hid (R=.ok (.var ⟨s,false,a0,a2⟩) j2):=dJ.out;obtain⟨w5,Y⟩:=aj (O.setCell ⟨z,3,none⟩ (.int .i64 a2));have bi:=Hd Y;replace HM:Hid (w5.heap[b]?=some (.cells #[.slice (a 0) (D 0) (c 0),.slice (a 1) (D 1) (c 1),.slice (a 2) (D 2) (c 2),.slice (a 3) (D 3) (c 3),.slice (a 4) (D 4) (c 4),.slice (a 5) (D 5) (c 5),.slice (a 6) (D 6) (c 6),.slice (a 7) (D 7) (c 7)] 28 (0,0))):=by show _=_;rw[Y,iw _ ⟨z,3,none⟩ b _ (fun e=>ai.1 e.symm)];exact HM.out
    replace VW:Hid (w5.heap[r]?=some (.cells #[.slice none 0 0,.slice none 0 0,.slice none 0 0,.slice none 0 0,.slice none 0 0,.slice none 0 0,.slice none 0 0,.slice none 0 0,.int .i64 0,.int .i64 0] 60 (0,0))):=by show _=_;rw[Y,iw _ ⟨z,3,none⟩ r _ (fun e=>ai.2 e.symm)];exact VW.out
    replace HZ:Hid (w5.heap[z]?=some (.cells #[.string s,.bool false,.int .i64 a0,.int .i64 a2] 45 (0,0))):=by show _=_;rw[Y];exact anI HZ.out (k:=3) (by decide)
    replace wz:Hid (∀q,(F q∨q=b∨q=r∨q=z)→q<w5.heap.size):=fun q h=>by rw[Y];have:=wz.out q h;simpa[World.setCell]using this
    replace ag:Hid (RM w5 B (fun q=>F q∨q=b∨q=r∨q=z) (VSl a D c) X G):=by rw[Y];exact ag.only ((⟨rfl,rfl,rfl,lr _,fun _ _ _=>rfl⟩:Only _ O O).bq (b:=z) (o:=3) (.inr (.inr (.inr rfl))) _)
    replace HO:Hid (Only (fun q=>B≤q∧¬F q) w w5):=by rw[Y];exact HO.bq (b:=z) (o:=3) az.out _
    replace af:Hid (Below w2.heap.size w2 w5):=by rw[Y];exact af.setCell (p:=⟨z,3,none⟩) ay.out _
    clear Y;have Ez:Hid (VZ (fun q=>False) w5 [.string s,.bool false,.int .i64 a0,.int .i64 a2] (.var ⟨s,false,a0,a2⟩)):=rfl;have JO:Hid (∀q,q<w5.heap.size→False→w.heap.size≤q∧¬(F q∨q=b∨q=r∨q=z)):=fun q _ h=>h.elim
    go_upto_region 16 with fail
    rw[←bi.out];clear y0 y1 y2 y3 yf;obtain⟨i0,bm,bp,br,bu⟩:=info_parts ahP;have ao:=Hd (Iy.out 0 (by decide));have aa:w5.ownsRow B 45 4 (.slice (a 0) (D 0) (c 0)) (D 0) (X 0).flatten:=by rw[ao.out];exact(show VSl a D c 0=.slice (a 0) (G 0).length (c 0) by unfold VSl;rw[ao.out]) ▸ ag.own 0 (by decide)
    have cc:=wz.out;obtain⟨v0,v1,v2,v3,v4,v5,v6,v7,vf⟩:=q8 HM.out;have a6:=lH HM.out;have a8:=lH VW.out;obtain⟨p0,p1,p2,p3,pf⟩:=q4 HZ.out;obtain⟨wy,ar⟩:=ak (w5.alloc (.cells #[.string s,.bool false,.int .i64 a0,.int .i64 a2] 45))
    go_wp2_with (at_builtin;refine wpList_append_lies _ (by rfl) _ _ _ (by rfl) B 45 i0 (.agg #[.string ⟨#[]⟩,.bool false,.int .i64 0,.int .i64 0]) 4 40 Tryz.underlying23 bm bp br bu rfl (by decide) _ (D 0) _ (by rfl) (aa.alloc _) ⟨w5.heap.size,0,none⟩ 1 1 [.string s,.bool false,.int .i64 a0,.int .i64 a2] (by rfl) rfl (World.news_of_block (eu w5 _)) (fun u hu=>by
     simp only[List.mem_cons,List.not_mem_nil,or_false]at hu
     rcases hu with rfl|rfl|rfl|rfl<;>rfl) (by decide) ?c3 ?c4 ?c5 (w5.heap.size+1) (by simp) ?_)
    case c3=>unfold maxLen;omega
    case c4=>omega
    case c5=>have:=kH.out;have:=ae.out;simp;omega
    intro g cap w6 ab dH pW EG;rw[←ar.out]at dH;obtain⟨uI,aJ,av⟩:=anB (cs:=[.string s,.bool false,.int .i64 a0,.int .i64 a2]) (el:=.var ⟨s,false,a0,a2⟩) (S0:=fun q=>False) ag.out HO.out (fun q h=>.inl h) wz.out kH.out bv.out ar.out (k:=0) (by decide) dH (pW.imp_right fun h=>by rw[h,ar.out];simp) ab (by rw[ao.out]) Ez.out JO.out;have X6:Hid (w6.heap[b]?=some (.cells #[.slice (a 0) (D 0) (c 0),.slice (a 1) (D 1) (c 1),.slice (a 2) (D 2) (c 2),.slice (a 3) (D 3) (c 3),.slice (a 4) (D 4) (c 4),.slice (a 5) (D 5) (c 5),.slice (a 6) (D 6) (c 6),.slice (a 7) (D 7) (c 7)] 28 (0,0))):=(av b (.inr (.inl rfl))).trans HM.out;have Y6:Hid (w6.heap[r]?=some (.cells #[.slice none 0 0,.slice none 0 0,.slice none 0 0,.slice none 0 0,.slice none 0 0,.slice none 0 0,.slice none 0 0,.slice none 0 0,.int .i64 0,.int .i64 0] 60 (0,0))):=(av r (.inr (.inr (.inl rfl)))).trans VW.out;have o7:=Hd uI;have Fy:=Hd aJ;clear uI aJ av ab dH pW aa ao v0 v1 v2 v3 v4 v5 v6 v7 vf p0 p1 p2 p3 pf;obtain⟨v0,v1,v2,v3,v4,v5,v6,v7,vf⟩:=q8 X6.out;obtain⟨u0,u1,u2,u3,u4,u5,u6,u7,u8,u9,uf⟩:=q10 Y6.out;have cd:b≠r:=kJ.out;have bn:r≠b:=fun h=>kJ.out h.symm;go_wp2_with fail;clear v0 v1 v2 v3 v4 v5 v6 v7 vf u0 u1 u2 u3 u4 u5 u6 u7 u8 u9 uf
    refine bR (rcS (W:=w6.setCell ⟨b,0,none⟩ (.slice (some ⟨g,0,none⟩) (D 0+1) cap)) (V:=VSl (upd a 0 (some ⟨g,0,none⟩)) (upd D 0 (D 0+1)) (upd c 0 cap)) (i:=.int .i64 (j2:Nat)) (x:=.int .i64 0) ((iw _ ⟨b,0,none⟩ r _ bn).trans Y6.out)) rfl ?_;rw[HF.out,bE.out];have b9:=kH.out;have cb:=ae.out;exact ant o7.out Fy.out (.inr (.inl rfl)) (.inr (.inr (.inl rfl))) (fun q h=>.inl h) ⟨by omega,fun h=>by have:=bA.out b h;omega⟩ ⟨by omega,fun h=>by have:=bA.out r h;omega⟩ (j2)
def aon(w:World)(B:Nat)(F:Nat→Prop)(r:Rs Md)(e:Ending)(w':World):Prop:=∃(a:Nat→Option Addr)(nn c:Nat→Nat),Only (fun q=>B≤q∧¬F q) w w'∧match r with
 |.ok m j=>e=.returned (anO (VSl a nn c) j 0)∧∃X G,RM w' B F (VSl a nn c) X G∧V8 G m∧∀k,k<8→nn k=(G k).length
 |.bad j x=>e=.returned (anO (VSl a nn c) j x)∧x≠0
theorem dP.aog{w w':World}{A:Option Addr}{c B:Nat}{F:Nat→Prop}{l:List Tok}(h:dP w A c l)(G:Only (fun q=>B≤q∧¬F q) w w')(hA:∀a,A=some a→a.block<B):dP w' A c l:=by
 refine⟨?_,h.cap,h.bU,h.len,h.txt,h.rng,fun a ha=>lL (h.old a ha) G.size⟩
 rcases h.toks with h0|⟨b,off,rfl,D,hc⟩
 ·exact .inl h0
 ·have hb:=G.block b D (fun O=>by have:=hA _ rfl;simp only at this;omega)
  exact .inr ⟨b,off,rfl,lL D G.size,fun k z J j I=>by
   have h2:=hc k z J j I;unfold World.cell? at h2⊢;simp only at h2⊢
   rw[hb];exact h2⟩
theorem RM.len{w:World}{B:Nat}{F:Nat→Prop}{a:Nat→Option Addr}{D c:Nat→Nat}{X:Nat→List (List Value)}{G:Nat→List El}(h:RM w B F (VSl a D c) X G):∀k,k<8→D k=(G k).length:=fun k I=>by
 rcases(h.own k I).2 with⟨h1,h2⟩|⟨g,cap,cur,h1,-⟩
 ·unfold VSl at h1;injection h1 with _ h3 _;omega
 ·unfold VSl at h1;injection h1
theorem aob:∀i j,i<8→j<8→kwS i=kwS j→i=j:=fun i j hi D h=>by
 have h2:bs (kwS i)=bs (kwS j):=by rw[h]
 rcases lt8 hi with rfl|rfl|rfl|rfl|rfl|rfl|rfl|rfl<;>rcases lt8 D with rfl|rfl|rfl|rfl|rfl|rfl|rfl|rfl<;>first|rfl|(exact absurd h2 (by decide))
theorem aoc{G:Nat→Nat}{k:Nat}{w w':World}{e:Ending}(D:k<8)(h:an1 G (kwS k) w e w'):e=.returned (.int .i64 (G k:Nat))∧Below w.heap.size w w':=by
 refine⟨?_,h.2⟩
 rcases h.1 with⟨j,I,h1,h2⟩|⟨h1,-⟩
 ·rw[aob k j D I h1];exact h2
 ·exact absurd rfl (h1 k D)
theorem aoh{l:List Tok}{i k:Nat}(D:k<8)(hw:ah l i 3 (ji k)=true):elP l i=elK l k (i+1):=by
 have hf:∀s,ji k≠s→ah l i 3 s=false:=fun s hs=>PK hw hs;unfold elP elK
 rcases lt8 D with rfl|rfl|rfl|rfl|rfl|rfl|rfl|rfl
 ·rw[iP (show ah l i 3 kV=true from hw)]
  try rfl
 ·rw[hf kV (by decide),iN (by decide),iP (show ah l i 3 kW=true from hw)]
  try rfl
 ·rw[hf kV (by decide),hf kW (by decide),iN (by decide),iN (by decide),iP (show ah l i 3 iA=true from hw)]
  try rfl
 ·rw[hf kV (by decide),hf kW (by decide),hf iA (by decide),iN (by decide),iN (by decide),iN (by decide),iP (show ah l i 3 eZ=true from hw)]
  try rfl
 ·rw[hf kV (by decide),hf kW (by decide),hf iA (by decide),hf eZ (by decide)];simp only[Bool.false_eq_true,if_false];rw[iP (show ah l i 3 fE=true from hw)]
  try rfl
 ·rw[hf kV (by decide),hf kW (by decide),hf iA (by decide),hf eZ (by decide),hf fE (by decide)];simp only[Bool.false_eq_true,if_false];rw[iP (show ah l i 3 fP=true from hw)]
  try rfl
 ·rw[hf kV (by decide),hf kW (by decide),hf iA (by decide),hf eZ (by decide),hf fE (by decide),hf fP (by decide)];simp only[Bool.false_eq_true,if_false];rw[iP (show ah l i 3 jL=true from hw)]
  try rfl
 ·rw[hf kV (by decide),hf kW (by decide),hf iA (by decide),hf eZ (by decide),hf fE (by decide),hf fP (by decide),hf jL (by decide)];simp only[Bool.false_eq_true,if_false];rw[iP (show ah l i 3 pI=true from hw)]
  try rfl
theorem aoo{l:List Tok}{i k:Nat}{m:Md}(G:k<8)(hw:ah l i 3 (ji k)=true):m_ l m i=if 64≤ahT m k then .bad i 18 else match elK l k (i+1)with
 |.bad j x=>.bad j x
 |.ok e j=>if ah l j 4 [59]then .ok (e.put m) (j+1)else .bad j 16:=by
 have he:=aoh G hw;unfold m_;rw[agk G hw,he]
 by_cases D:64≤ahT m k
 ·rw[iP D,iP D];rfl
 ·rw[iN D,iN D]
  cases elK l k (i+1)with
  |bad j x=>rfl
  |ok e j=>
   show(qJ l j 4 [59]).then _=_;unfold qJ
   by_cases h5:ah l j 4 [59]=true
   ·rw[iP h5];show _=if ah l j 4 [59]=true then _ else _;rw[iP h5];rfl
   ·rw[iN h5];show _=if ah l j 4 [59]=true then _ else _;rw[iN h5];rfl
theorem V8.aow{l:List Tok}{i k j:Nat}{e:El}{G:Nat→List El}{m:Md}(h:V8 G m)(D:k<8)(he:elK l k i=.ok e j):V8 (upd G k (G k++[e])) (e.put m):=by
 obtain⟨h0,h1,h2,h3,I,h5,J,O⟩:=h;unfold elK at he
 rcases lt8 D with rfl|rfl|rfl|rfl|rfl|rfl|rfl|rfl
 all_goals
  obtain⟨x,-,rfl⟩:=map_ok he;simp[V8,upd,El.put, *]
theorem aol{l:List Tok}{i k j:Nat}{e:El}(h:elK l k i=.ok e j)(Y:l.length≤100000):j≤1000000:=by
 have D:∀{p:Nat}{x:Tm}{q:Nat},OE l p=.ok x q→q≤l.length:=fun{p x q} h=>by
  unfold OE at h
  by_cases h0:(iU l p).2.2≠0
  ·rw[iP h0]at h;cases h
  ·rw[iN h0]at h
   injection h with h1 h2
   have h3:(iU l p).2.2=0:=by omega
   exact(wM (l:=l) (i:=p) (t:=x) (j:=q) (by rw[←h1,←h2,←h3])).2.jl
 have hF:∀{p:Nat}{x:Fm}{q:Nat},fmP l p=.ok x q→q≤l.length:=fun{p x q} h=>by
  unfold fmP at h
  by_cases h0:(nN l p).2.2≠0
  ·rw[iP h0]at h;cases h
  ·rw[iN h0]at h
   injection h with h1 h2
   have h3:(nN l p).2.2=0:=by omega
   exact(GJ (l:=l) (i:=p) (f:=x) (j:=q) (by rw[←h1,←h2,←h3])).2.jl
 have I:∀{p:Nat}{x:Df}{q:Nat},Mi l p=.ok x q→q≤l.length:=fun{p x q} h=>by
  unfold Mi at h
  cases h1:sV l [58,61] p with
  |bad=>rw[h1]at h;cases h
  |ok s m=>
   rw[h1]at h
   cases h2:OE l m with
   |bad=>simp only[Rs.then,h2]at h;cases h
   |ok t G=>simp only[Rs.then,h2]at h;injection h with _ h3;have:=D h2;omega
 have hS:∀{p:Nat}{x:Sp}{q:Nat},GL l p=.ok x q→q≤l.length:=fun{p x q} h=>by
  unfold GL at h
  cases h1:sV l [58] p with
  |bad=>rw[h1]at h;cases h
  |ok s m=>
   rw[h1]at h
   cases h2:fmP l m with
   |bad=>simp only[Rs.then,h2]at h;cases h
   |ok t G=>simp only[Rs.then,h2]at h;injection h with _ h3;have:=hF h2;omega
 have J:∀{p:Nat}{x:Vr}{q:Nat},OD l p=.ok x q→q≤l.length:=fun{p x q} h=>by
  unfold OD at h
  cases h1:sV l [58] p with
  |bad=>rw[h1]at h;cases h
  |ok s m=>
   rw[h1]at h
   by_cases hb:ah l m 3 vP=true
   ·simp only[Rs.then,iP hb]at h;injection h with _ h3;have:=dL hb;omega
   ·simp only[Rs.then,iN hb]at h
    cases h2:GK l m with
    |bad=>rw[h2]at h;cases h
    |ok a G=>
     rw[h2]at h
     by_cases hd:ah l G 4 [46,46]=true
     ·simp only[qJ,iP hd]at h
      cases h3:GK l (G+1)with
      |bad=>rw[h3]at h;cases h
      |ok O m3=>rw[h3]at h;injection h with _ h4;have:=an7 h3;omega
     ·simp only[qJ,iN hd]at h;cases h
 have key:j≤l.length:=by
  unfold elK at h
  split at h<;>obtain⟨x,hx,-⟩:=map_ok h
  ·exact J hx
  ·exact I hx
  ·exact D hx
  ·exact D hx
  ·exact I hx
  ·exact D hx
  ·exact D hx
  ·exact hS hx
 omega
theorem aod{l:List Tok}{i k j:Nat}{x:Int}(D:k<8)(hw:ah l i 3 (ji k)=true)(h:elK l k (i+1)=.bad j x):x≠0:=by
 have h2:=ahU (l:=l) (i:=i) D hw;rw[aoh D hw,h]at h2;exact h2.2
theorem an4(l:List Tok)(A:Option Addr)(cA:Nat)(b6:RTk l A cA)(b1:RFk l A cA)(i:Nat)(w:World)(B:Nat)(F:Nat→Prop)(a:Nat→Option Addr)(D c:Nat→Nat)(X:Nat→List (List Value))(G:Nat→List El)(m:Md)(hP:dP w A cA l)(hi:i<l.length)(b5:RM w B F (VSl a D c) X G)(b3:∀k,k<8→D k=(G k).length)(hG:V8 G m)(b0:B≤w.heap.size)(ay:∀q,F q→q<w.heap.size)(bZ:∀x,A=some x→x.block<B) :
 Calls Tryz.prog 17 #[.agg #[.slice (a 0) (D 0) (c 0),.slice (a 1) (D 1) (c 1),.slice (a 2) (D 2) (c 2),.slice (a 3) (D 3) (c 3),.slice (a 4) (D 4) (c 4),.slice (a 5) (D 5) (c 5),.slice (a 6) (D 6) (c 6),.slice (a 7) (D 7) (c 7)],.slice A l.length cA,.int .i64 (i:Nat)] w (aon w B F (m_ l m i)):=by
 obtain⟨R,HR⟩:=ak (m_ l m i);obtain⟨F0,HF⟩:=ak (aon w B F R);rw[←HR.out,←HF.out];have cH:=hP.len;have bz:=hP.cap;have aQ:=hP.bU;unfold maxLen at aQ;obtain⟨b,hb⟩:=aj w.heap.size;obtain⟨r,hr⟩:=aj (b+1);obtain⟨w1,hw1⟩:=aj (w.alloc (.cells #[.slice (a 0) (D 0) (c 0),.slice (a 1) (D 1) (c 1),.slice (a 2) (D 2) (c 2),.slice (a 3) (D 3) (c 3),.slice (a 4) (D 4) (c 4),.slice (a 5) (D 5) (c 5),.slice (a 6) (D 6) (c 6),.slice (a 7) (D 7) (c 7)] 28));obtain⟨w2,aF⟩:=aj (w1.alloc (.cells #[.slice none 0 0,.slice none 0 0,.slice none 0 0,.slice none 0 0,.slice none 0 0,.slice none 0 0,.slice none 0 0,.slice none 0 0,.int .i64 0,.int .i64 0] 60));have hb1:=dz hw1;have bw:=dz aF;have b9:=sAl hw1;have cJ:=sAl aF;have sH:=kX bw (jZ hw1 hb);have ag:=jZ aF (show r=w1.heap.size by rw[b9,←hb];exact hr);have bk:Hid (Below w.heap.size w w2):=hb1.trans (bw.mono (by omega));have bv:=hP.ano bk.out;obtain⟨t,bt,off,ht,rfl,cU,t0,t1,t2,-⟩:=bv.at (i:=i) hi;have VN:Hid (bt<B):=bZ _ rfl;have HT:=Hd ht;have cx:=Hd b5;have HP:=Hd bv;have cr:=Hd hw1;have cs:=Hd aF;have cn:=Hd hb;have cp:=Hd hr;have Iy:=Hd b3;have kH:=Hd b0;have bA:=Hd ay;have bP:=Hd hG;have JZ:=Hd b6;have ch:=Hd b1
 have c8:r<w2.heap.size∧w2.heap.size≤r+1∧b<r∧w.heap.size≤b∧w.heap.size≤w2.heap.size:=by omega
 obtain⟨n,hn⟩:=aj l.length;rw[←hn]at hi cH bz⊢;have HN:=Hd hn;have cV:(0:Int)≤(i:Int):=by omega
 have cW:(i:Int)<(n:Int):=by omega
 obtain⟨T,hT⟩:∃T:ByteArray,T=⟨t.text.toArray⟩:=⟨_,rfl⟩;rw[←hT]at t2;have br:=Hd hT;clear b5 hP bv hw1 aF hb hr b3 b0 ay bZ hb1 bw b9 cJ hn ht hT hG b6 b1 t1;go_in
 go_upto_region 1 with fail
 rw[←cr.out]
 try rw[←cs.out]
 try rw[←cn.out]
 try rw[←cp.out]
 by_cases av:t.kind=3
 case neg=>
  have cG:(t.kind != 3)=true:=by simpa using av
  have bE:Hid (R=.bad i 16):=by
   show _=_;rw[HR.out];exact ab6 fun k hk=>by unfold ah;rw[HT.out];simp[av]
  clear av;obtain⟨v0,v1,v2,v3,v4,v5,v6,v7,vf⟩:=q8 sH.out;obtain⟨u0,u1,u2,u3,u4,u5,u6,u7,u8,u9,uf⟩:=q10 ag.out;have bg:=lH sH.out;have bj:=lH ag.out;go_wp2_with fail;clear v0 v1 v2 v3 v4 v5 v6 v7 vf u0 u1 u2 u3 u4 u5 u6 u7 u8 u9 uf t0 t2;refine bR (rcS (W:=w2) (V:=VSl a D c) (i:=.int .i64 (i:Nat)) (x:=.int .i64 16) ag.out) rfl ?_;rw[HF.out,bE.out];exact⟨a,D,c,ank (V:=VSl a D c) (Ob bk.out) ⟨by have:=kH.out;omega,fun h=>by have:=bA.out r h;omega⟩,rfl,by decide⟩
 case pos=>
 have cG:(t.kind != 3)=false:=by simpa using av
 have bm:=Hd av;have cI:=anF a D c T w2;have bo:Hid (∀W,Calls Tryz.prog 47 #[.agg #[.slice (a 0) (D 0) (c 0),.slice (a 1) (D 1) (c 1),.slice (a 2) (D 2) (c 2),.slice (a 3) (D 3) (c 3),.slice (a 4) (D 4) (c 4),.slice (a 5) (D 5) (c 5),.slice (a 6) (D 6) (c 6),.slice (a 7) (D 7) (c 7)],.string T] W (an1 D T W)):=fun W=>anF a D c T W;clear av cI;obtain⟨v0,v1,v2,v3,v4,v5,v6,v7,vf⟩:=q8 sH.out;have bg:=lH sH.out;have bj:=lH ag.out;go_wp2_with fail;refine(bo.out _).mono ?_;rintro e w3 ⟨hm,ao⟩;have af:=kX ao sH;have ai:=kX ao ag;have bL:Hid (Below w.heap.size w w3):=bk.trans (ao.mono (by omega));have cb:=ao.size;have cC:=ao;clear ao sH ag v0 v1 v2 v3 v4 v5 v6 v7 vf t0
 rcases hm with⟨k,hk,rfl,rfl⟩|⟨b8,rfl⟩
 case inr=>
  have bE:Hid (R=.bad i 16):=by
   show _=_;rw[HR.out];refine ab6 fun k hk=>?_;unfold ah;rw[HT.out];have h:=b8 k hk;simp only[bm.out,decide_true,Bool.true_and];refine dF fun h2=>h (gV ?_);rw[anD k hk,br.out,←h2];rfl
  clear b8 t2;obtain⟨v0,v1,v2,v3,v4,v5,v6,v7,vf⟩:=q8 af.out;obtain⟨u0,u1,u2,u3,u4,u5,u6,u7,u8,u9,uf⟩:=q10 ai.out;have bg:=lH af.out;have bj:=lH ai.out;go_wp2_with fail;clear v0 v1 v2 v3 v4 v5 v6 v7 vf u0 u1 u2 u3 u4 u5 u6 u7 u8 u9 uf;refine bR (rcS (W:=w3) (V:=VSl a D c) (i:=.int .i64 (i:Nat)) (x:=.int .i64 16) ai.out) rfl ?_;rw[HF.out,bE.out];exact⟨a,D,c,ank (V:=VSl a D c) (Ob bL.out) ⟨by have:=kH.out;omega,fun h=>by have:=bA.out r h;omega⟩,rfl,by decide⟩
 have Dy:Hid (ah l i 3 (ji k)=true):=by
  show _=_;unfold ah;rw[HT.out,←anD k hk,br.out];simp[bm.out,bs]
 have cP:(0:Int)≤(D k:Int):=by omega
 have cQ:¬((D k:Int)<0):=by omega
 have kI:Hid (R=if 64≤D k then .bad i 18 else match elK l k (i+1)with
  |.bad j x=>.bad j x
  |.ok e j=>if ah l j 4 [59]then .ok (e.put m) (j+1)else .bad j 16):=by
  show _=_;rw[HR.out,aoo hk Dy.out,Iy.out k hk,bP.cnt hk]
 have ae:=Hd hk;obtain⟨v0,v1,v2,v3,v4,v5,v6,v7,vf⟩:=q8 af.out;have wJ:=lH af.out;have bJ:=lH ai.out;clear HR br t2;go_wp2_with fail;refine(bo.out _).mono ?_;intro e w4 hm;obtain⟨rfl,ar⟩:=aoc ae.out hm;have aP:=kX ar af;have ax:=kX ar ai;have BS:Hid (Below w.heap.size w w4):=bL.trans (ar.mono (by omega));have cK:=ar.size;have cE:Below w2.heap.size w2 w4:=cC.trans (ar.mono cb);clear hm ar af ai v0 v1 v2 v3 v4 v5 v6 v7 vf
 by_cases bf:64≤D k
 ·have cw:(64:Int)≤(D k:Int):=by omega
  have bE:Hid (R=.bad i 18):=by show _=_;rw[kI.out,iP bf]
  clear bf;obtain⟨v0,v1,v2,v3,v4,v5,v6,v7,vf⟩:=q8 aP.out;obtain⟨u0,u1,u2,u3,u4,u5,u6,u7,u8,u9,uf⟩:=q10 ax.out;have bg:=lH aP.out;have bj:=lH ax.out;go_wp2_with fail;clear v0 v1 v2 v3 v4 v5 v6 v7 vf u0 u1 u2 u3 u4 u5 u6 u7 u8 u9 uf;refine bR (rcS (W:=w4) (V:=VSl a D c) (i:=.int .i64 (i:Nat)) (x:=.int .i64 18) ax.out) rfl ?_;rw[HF.out,bE.out];exact⟨a,D,c,ank (V:=VSl a D c) (Ob BS.out) ⟨by have:=kH.out;omega,fun h=>by have:=bA.out r h;omega⟩,rfl,by decide⟩
 have cw:¬(64:Int)≤(D k:Int):=by omega
 have VQ:=Hd bf;clear bf
 go_upto_region 7 with fail
 obtain⟨bx,bh⟩:=aj w4.heap.size;obtain⟨w5,gH⟩:=aj (w4.alloc (.cells #[.slice none 0 0,.slice none 0 0,.slice none 0 0,.slice none 0 0,.slice none 0 0,.slice none 0 0,.slice none 0 0,.slice none 0 0,.int .i64 0,.int .i64 0] 60));have az:=dz gH
 have cL:bx<w5.heap.size∧w5.heap.size≤bx+1∧r<bx∧b<bx:=by
  rw[gH,bh];simp;omega
 have aS:=kX az aP;have OL:=kX az ax;have bu:=jZ gH bh;have pU:Hid (Below w.heap.size w w5):=BS.trans (az.mono (by omega))
 have ay:∀q,(F q∨q=b∨q=r∨q=bx)→q<w5.heap.size:=fun q h=>by
  rcases h with h|rfl|rfl|rfl
  ·have:=bA.out q h;omega
  ·omega
  ·omega
  ·omega
 have cg:Hid (∀q,(F q∨q=b∨q=r∨q=bx)→F q∨w.heap.size≤q):=fun q h=>by
  rcases h with h|rfl|rfl|rfl
  ·exact .inl h
  ·exact .inr (by omega)
  ·exact .inr (by omega)
  ·exact .inr (by omega)
 have ba:Hid (RM w5 B (fun q=>F q∨q=b∨q=r∨q=bx) (VSl a D c) X G):=(cx.more cg.out).only (Ob pU.out);have aw:Hid (dP w5 (some ⟨bt,off,none⟩) cA l):=HP.ano (cE.trans (az.mono (by omega)));have bb:Hid (B≤w5.heap.size):=by show B≤_;have:=kH.out;omega
 have bd:=Hd ay;have ct:=Hd gH;have cq:=Hd bh;have aJ:Hid (i+1≤l.length):=by show _≤_;have:=HN.out;omega
 rw[←ct.out]
 try rw[←cq.out]
 have c0:((kwS k).toList==[118,97,114])=decide (k=0):=by rw[←an3 ae.out 0 (by decide),show(kwS 0).toList=[118,97,114] by rw[ByteArray.toList_eq];rfl]
 have c1:((kwS k).toList==[100,101,102])=decide (k=1):=by rw[←an3 ae.out 1 (by decide),show(kwS 1).toList=[100,101,102] by rw[ByteArray.toList_eq];rfl]
 have c4:((kwS k).toList==[110,101,120,116])=decide (k=4):=by rw[←an3 ae.out 4 (by decide),show(kwS 4).toList=[110,101,120,116] by rw[ByteArray.toList_eq];rfl]
 have c7:((kwS k).toList==[115,112,101,99])=decide (k=7):=by rw[←an3 ae.out 7 (by decide),show(kwS 7).toList=[115,112,101,99] by rw[ByteArray.toList_eq];rfl]
 clear az gH bh ay aP ax bo bm HT cb cK bg bj wJ bJ;obtain⟨v0,v1,v2,v3,v4,v5,v6,v7,vf⟩:=q8 aS.out;obtain⟨u0,u1,u2,u3,u4,u5,u6,u7,u8,u9,uf⟩:=q10 bu.out;have bW:=lH aS.out;have kL:=lt8 ae.out;have HAS:=Hd (fun h=>aoK k h l _ cA JZ.out (i+1) w5 B _ a D c X G aw.out aJ.out ba.out Iy.out (by have:=VQ.out;omega) bb.out bd.out);have cf:=Hd (fun h=>aoJ k h l _ cA JZ.out (i+1) w5 B _ a D c X G aw.out aJ.out ba.out Iy.out (by have:=VQ.out;omega) bb.out bd.out);clear hk
 rcases kL with rfl|rfl|rfl|rfl|rfl|rfl|rfl|rfl
 all_goals
  simp only[decide_true,Nat.reduceEqDiff,decide_false]at c0 c1 c4 c7
  first
   |have hc:=anJ l _ cA (i+1) w5 B _ a D c X G aw.out aJ.out ba.out Iy.out (by have:=VQ.out;omega) bb.out bd.out
   |have hc:=HAS.out (by decide)
   |have hc:=cf.out (by decide)
   |have hc:=anT l _ cA ch.out (i+1) w5 B _ a D c X G aw.out aJ.out ba.out Iy.out (by have:=VQ.out;omega) bb.out bd.out
   |fail
  (try simp only[kwS,Nat.reduceEqDiff,decide_true,decide_false]at hc);rw[←HN.out]at hc;have Dh:=Hd hc;clear hc;go_wp2_with fail;obtain⟨re,aE⟩:=aj (elK l _ (i+1));refine(Dh.out).mono ?_;rintro e w6 ⟨J,n6,O,iX,hq⟩;rw[←aE]at hq kI;have cj:Hid (∀el j,re=.ok el j→j≤1000000):=fun el j h=>aol (aE.symm.trans h) (by have:=HN.out;omega);have bl:Hid (∀j x,re=.bad j x→x≠0):=fun j x h=>aod (by decide) Dy.out (by rw[←aE];exact h);have cF:Hid (∀el j,re=.ok el j→elK l _ (i+1)=.ok el j):=fun el j h=>by rw[←aE];exact h
  have b2:w6.heap[b]?=w5.heap[b]?:=iX.block b bW (fun h=>h.2 (.inr (.inl rfl)));have uI:w6.heap[r]?=w5.heap[r]?:=iX.block r (by omega) (fun h=>h.2 (.inr (.inr (.inl rfl))));have b7:w6.heap[bx]?=w5.heap[bx]?:=iX.block bx cL.1 (fun h=>h.2 (.inr (.inr (.inr rfl))));have a7:=Hd (b2.trans aS.out);have o7:=Hd (uI.trans OL.out);have Pq:=Hd (b7.trans bu.out);have Fy:Hid (Only (fun q=>B≤q∧¬F q) w w6):=(Ob pU.out).trans (iX.mono fun q h=>⟨h.1,fun h9=>h.2 (.inl h9)⟩)
  have ck:Hid (dP w6 (some ⟨bt,off,none⟩) cA l):=aw.aog iX (fun x hx=>by
   have cM:=Option.some.inj hx;rw[←cM]
   exact VN.out)
  have cY:=iX.size;clear iX aE b2 uI b7 aS OL bu v0 v1 v2 v3 v4 v5 v6 v7 vf u0 u1 u2 u3 u4 u5 u6 u7 u8 u9 uf Dh bW;have bi:bx≠r∧bx≠b∧r≠bx:=by omega
  obtain⟨u0,u1,u2,u3,u4,u5,u6,u7,u8,u9,uf⟩:=q10 Pq.out;have cd:=lH Pq.out
  cases re with
  |bad j x=>
   simp only at hq;subst hq;have hx:=bl.out j x rfl;have c9:(x != 0)=true:=by simpa using hx
   have cv:=Hd hx;have bE:Hid (R=.bad j x):=by show _=_;rw[kI.out,iN VQ.out]
   clear hx;unfold anO;simp only[VSl]
   go_upto_if 71 with fail
   obtain⟨w7,I⟩:=aj (anr w6 bx (VSl J n6 O) (.int .i64 (j:Nat)) (.int .i64 x));have Y:Only (fun q=>q=bx) w6 w7:=by rw[I];exact ank ⟨rfl,rfl,rfl,lr _,fun _ _ _=>rfl⟩ rfl
   have E5:Hid (w7.heap[bx]?=some (.cells #[.slice (J 0) (n6 0) (O 0),.slice (J 1) (n6 1) (O 1),.slice (J 2) (n6 2) (O 2),.slice (J 3) (n6 3) (O 3),.slice (J 4) (n6 4) (O 4),.slice (J 5) (n6 5) (O 5),.slice (J 6) (n6 6) (O 6),.slice (J 7) (n6 7) (O 7),.int .i64 (j:Nat),.int .i64 x] 60 (0,0))):=by rw[I];exact anw (V:=VSl J n6 O) Pq.out
   have bn:=Hd ((Y.block b (lH a7.out) (fun h=>bi.2.1 h.symm)).trans a7.out);have aa:=Hd ((Y.block r (lH o7.out) (fun h=>bi.1 h.symm)).trans o7.out);have a8:Hid (Only (fun q=>B≤q∧¬F q) w w7):=by rw[I];exact ank Fy.out ⟨by have:=kH.out;omega,fun h=>by have:=bA.out bx h;omega⟩
   have bp:=Hd Y;unfold anr at I;simp only[VSl]at I;rw[←I];clear I Y u0 u1 u2 u3 u4 u5 u6 u7 u8 u9 uf cd;obtain⟨v0,v1,v2,v3,v4,v5,v6,v7,v8,v9,vf⟩:=q10 E5.out;obtain⟨u0,u1,u2,u3,u4,u5,u6,u7,u8,u9,uf⟩:=q10 aa.out;have cy:=lH E5.out;have cz:=lH aa.out;go_wp2_with fail;clear v0 v1 v2 v3 v4 v5 v6 v7 v8 v9 vf u0 u1 u2 u3 u4 u5 u6 u7 u8 u9 uf;refine bR (rcS (W:=w7) (V:=VSl J n6 O) (i:=.int .i64 (j:Nat)) (x:=.int .i64 x) aa.out) rfl ?_;rw[HF.out,bE.out];exact⟨J,n6,O,ank (V:=VSl J n6 O) a8.out ⟨by have:=kH.out;omega,fun h=>by have:=bA.out r h;omega⟩,rfl,cv.out⟩
  |ok el j=>
   obtain⟨hq,X6,uI⟩:=hq;subst hq;have cB:=Hd uI;have HJ:=Hd (cj.out el j rfl);have b4:R=if ah l j 4 [59]then .ok (el.put m) (j+1)else .bad j 16:=by rw[kI.out,iN VQ.out]
   have uU:=Hd b4;clear uI b4;unfold anO;simp only[VSl]
   go_upto_if 71 with fail
   obtain⟨w7,I⟩:=aj (anr w6 bx (VSl J n6 O) (.int .i64 (j:Nat)) (.int .i64 0));have Y:Only (fun q=>q=bx) w6 w7:=by rw[I];exact ank ⟨rfl,rfl,rfl,lr _,fun _ _ _=>rfl⟩ rfl
   have E5:Hid (w7.heap[bx]?=some (.cells #[.slice (J 0) (n6 0) (O 0),.slice (J 1) (n6 1) (O 1),.slice (J 2) (n6 2) (O 2),.slice (J 3) (n6 3) (O 3),.slice (J 4) (n6 4) (O 4),.slice (J 5) (n6 5) (O 5),.slice (J 6) (n6 6) (O 6),.slice (J 7) (n6 7) (O 7),.int .i64 (j:Nat),.int .i64 0] 60 (0,0))):=by rw[I];exact anw (V:=VSl J n6 O) Pq.out
   have bn:=Hd ((Y.block b (lH a7.out) (fun h=>bi.2.1 h.symm)).trans a7.out);have aa:=Hd ((Y.block r (lH o7.out) (fun h=>bi.1 h.symm)).trans o7.out);have a8:Hid (Only (fun q=>B≤q∧¬F q) w w7):=by rw[I];exact ank Fy.out ⟨by have:=kH.out;omega,fun h=>by have:=bA.out bx h;omega⟩
   have bp:=Hd Y;unfold anr at I;simp only[VSl]at I;rw[←I];clear I Y u0 u1 u2 u3 u4 u5 u6 u7 u8 u9 uf cd;obtain⟨v0,v1,v2,v3,v4,v5,v6,v7,v8,v9,vf⟩:=q10 E5.out;obtain⟨u0,u1,u2,u3,u4,u5,u6,u7,u8,u9,uf⟩:=q10 aa.out;have cy:=lH E5.out;have cz:=lH aa.out
   have bC:=anA (some ⟨bt,off,none⟩) cA j l 4 ⟨#[59]⟩ w7 (ck.aog (B:=bx) (F:=fun q=>q≠bx) (bp.mono fun q h=>⟨Nat.le_of_eq h.symm,fun h9=>h9 h⟩) (fun y hy=>by
    have cN:=Option.some.inj hy;rw[←cN];have:=VN.out;have:=kH.out;show bt<bx
    omega)) HJ.out
   rw[show bs ⟨#[59]⟩=[59]from rfl,←HN.out]at bC;have ci:=Hd bC;clear bC;go_wp2_with fail;refine(ci.out).mono ?_;rintro e wq ⟨he,cc⟩;subst he;rw[cc];clear cc
   by_cases ab:ah l j 4 [59]=true
   ·have bE:Hid (R=.ok (el.put m) (j+1)):=by show _=_;rw[uU.out,iP ab]
    rw[ab];clear ab;have cX:=HJ.out;go_wp2_with fail;clear v0 v1 v2 v3 v4 v5 v6 v7 v8 v9 vf u0 u1 u2 u3 u4 u5 u6 u7 u8 u9 uf;refine bR (rcS (W:=w7) (V:=VSl J n6 O) (i:=.int .i64 (j+1:Nat)) (x:=.int .i64 0) aa.out) rfl ?_;rw[HF.out,bE.out];have h1:=(cB.only (bp.mono (fun q h=>.inr (.inr (.inr h))))).only (ank (V:=VSl J n6 O) (i:=.int .i64 (j+1:Nat)) (x:=.int .i64 0) (r:=r) ⟨rfl,rfl,rfl,lr _,fun _ _ _=>rfl⟩ (.inr (.inr (.inl rfl))));have h2:=h1.less (F':=F) (fun q h=>.inl h);exact⟨J,n6,O,ank (V:=VSl J n6 O) a8.out ⟨by have:=kH.out;omega,fun h=>by have:=bA.out r h;omega⟩,rfl,_,_,h2,bP.aow (by decide) (cF.out el j rfl),h2.len⟩
   ·have ab:ah l j 4 [59]=false:=by simpa using ab
    have bE:Hid (R=.bad j 16):=by show _=_;rw[uU.out,ab];rfl
    rw[ab];clear ab;obtain⟨m0,m1,m2,m3,m4,m5,m6,m7,mf⟩:=q8 bn.out;have cS:=lH bn.out;go_wp2_with fail;clear v0 v1 v2 v3 v4 v5 v6 v7 v8 v9 vf u0 u1 u2 u3 u4 u5 u6 u7 u8 u9 uf m0 m1 m2 m3 m4 m5 m6 m7 mf;refine bR (rcS (W:=w7) (V:=VSl a D c) (i:=.int .i64 (j:Nat)) (x:=.int .i64 16) aa.out) rfl ?_;rw[HF.out,bE.out];exact⟨a,D,c,ank (V:=VSl a D c) a8.out ⟨by have:=kH.out;omega,fun h=>by have:=bA.out r h;omega⟩,rfl,by decide⟩
end Go.Proofs.YtkhoeoilamddaaaGreatDoor
