/- Walks and plain words: RprB RprC RfqC. -/
import Derived.Test.YtkhoeoilamddaaaGreatDoorQRfqA
namespace Go.Proofs.YtkhoeoilamddaaaGreatDoor
open Go.RowKit
set_option linter.unusedVariables false
set_option maxRecDepth 100000
set_option maxHeartbeats 8000000
theorem Sn(l:List Tok)(i:Nat)(op:Int)(r:List Int):au l i (op::r)=if (if op=17 then ah l i 3 [109,111,100]else ah l i 4 (iy op))then op else au l i r:=rfl
theorem yQ(A:Option Addr)(c i:Nat)(l:List Tok)(ops:List Int)(gt go ct co:Nat)(w:World)(hP:dP w A c l)(hi:i≤1000000)(ax:ops.length≤20)(hT:∀(k:Nat) (op:Int),ops[k]?=some op→w.cell? ⟨gt,k,none⟩=some (.string ⟨(iy op).toArray⟩))(hO:uF w go ops)(hm:∀op∈ops,op≠17→iy op≠[109,111,100]) :
 Calls Tryz.prog 212 #[.slice A l.length c,.int .i64 (i:Nat),.slice (some ⟨gt,0,none⟩) ops.length ct,.slice (some ⟨go,0,none⟩) ops.length co] w fun e w'=>e=.returned (.int .i64 (au l i ops))∧w'=w:=by
 obtain⟨n,HN⟩:=ak ops.length;obtain⟨nl,ab⟩:=ak l.length;obtain⟨r,HR⟩:=ak (au l i ops);obtain⟨F,hF⟩:∃F:Ending→World→Prop,F=fun e w'=>e=.returned (.int .i64 r)∧w'=w:=⟨_,rfl⟩;rw[←HN,←HR,←hF,←ab];rw[←HN]at ax;have HS:=Hd (fun(s:ByteArray)=>qB A c i l s w hP hi);have HI:=Hd (fun(s:ByteArray)=>Dk A c i l 3 s w hP hi);have HF:=Hd hF;have HT:=Hd hT;have HO:=Hd hO;have HM:=Hd hm;clear hF hP hT hO hm;go_in;go_wp2_with fail
 go_loopw [9] (fun sk wr=>∃k:Nat,k≤n∧sk=.int .i64 k∧wr=w∧Hid (au l i (ops.drop k)=r)) (fun k _=>n-(intOf k).toNat)
 case atStart=>exact⟨0,zl _,rfl,rfl,HR.symm⟩
 case round=>
  obtain⟨k,hk,rfl,ao,HD⟩:=hrel;rw[ao];clear ao
  by_cases av:k<n
  ·obtain⟨op,G⟩:∃op,ops[k]?=some op:=⟨_,gG (by have:=HN.out;omega)⟩;have t0:=HT k op G;have o0:=HO k op G
   have hdr:ops.drop k=op::ops.drop (k+1):=by
    obtain⟨h1,h2⟩:=gE.1 G;rw[←List.getElem_cons_drop h1,h2]
   have Y:=HD.out;rw[hdr,Sn]at Y;have J:=mG G;obtain⟨T,D⟩:∃T:ByteArray,T=⟨(iy op).toArray⟩:=⟨_,rfl⟩;rw[←D]at t0;have ay:(0:Int)≤(k:Int):=by omega
   have ar:(k:Int)<(n:Int):=by omega
   by_cases Aj:op=17
   ·have ai:T=⟨#[109,111,100]⟩:=by rw[D,Aj];rfl
    rw[iP Aj]at Y;rw[ai]at t0;have aa:=HI ⟨#[109,111,100]⟩;obtain⟨b,hb⟩:=aj (ah l i 3 [109,111,100]);rw[show ah l i 3 (bs ⟨#[109,111,100]⟩)=b from hb.symm,←ab]at aa;have af:=Hd aa;rw[←hb]at Y;have I:=Hd Y;clear ai D hdr J G Y aa hb HD
    cases b with
    |true=>
     have hE:r=op:=by have:=I.out;rw[iP rfl]at this;exact this.symm
     have O:=Hd hE;clear hE Aj;go_wp2_with fail;refine af.mono ?_;rintro e w' ⟨rfl,rfl⟩;go_wp2_with fail;rw[HF,O];exact⟨rfl,rfl⟩
    |false=>
     have O:Hid (au l i (ops.drop (k+1))=r):=by have:=I.out;rw[iN (by simp)]at this;exact this
     clear Aj;go_wp2_with fail;refine af.mono ?_;rintro e w' ⟨rfl,rfl⟩;go_wp2_with fail
     go_roundw
     case rel=>exact⟨k+1,by omega,by go_num,(by first|rfl|trivial),O⟩
     case measure=>simp[intOf];omega
   ·rw[iN Aj]at Y
    have hne:(T.toList==(⟨#[109,111,100]⟩:ByteArray).toList)=false:=by
     rw[vY];refine dF (fun e=>HM op J Aj ?_);rw[D]at e;exact e
    have hq:¬T.toList=[109,111,100]:=fun e=>by
     have e2:(⟨#[109,111,100]⟩:ByteArray).toList=[109,111,100]:=by rw[ByteArray.toList_eq]
     rw[e2]at hne;simp[e]at hne
    have az:(T.toList==([109,111,100]:List UInt8))=false:=by simpa using hq
    have aE:¬T=⟨#[109,111,100]⟩:=fun e=>by rw[e]at hne;simp at hne
    have aw:(T.toList != (⟨#[109,111,100]⟩:ByteArray).toList)=true:=by rw[bne,hne];rfl
    have ae:=HS T;obtain⟨b,hb⟩:=aj (ah l i 4 (iy op));rw[show ah l i 4 (bs T)=b from by rw[hb,D];rfl,←ab]at ae;have ag:=Hd ae;rw[←hb]at Y;have I:=Hd Y;clear D hdr J G Y ae hb HD Aj
    cases b with
    |true=>
     have hE:r=op:=by have:=I.out;rw[iP rfl]at this;exact this.symm
     have O:=Hd hE;clear hE;go_wp2_with fail;refine ag.mono ?_;rintro e w' ⟨rfl,rfl⟩;go_wp2_with fail;rw[HF,O];exact⟨rfl,rfl⟩
    |false=>
     have O:Hid (au l i (ops.drop (k+1))=r):=by have:=I.out;rw[iN (by simp)]at this;exact this
     go_wp2_with fail;refine ag.mono ?_;rintro e w' ⟨rfl,rfl⟩;go_wp2_with fail
     go_roundw
     case rel=>exact⟨k+1,by omega,by go_num,(by first|rfl|trivial),O⟩
     case measure=>simp[intOf];omega
  ·have ar:¬(k:Int)<(n:Int):=by omega
   have hE:r=0:=by
    have h:=HD.out;rw[List.drop_of_length_le (by rw[←HN];omega)]at h;exact h.symm
   have O:=Hd hE;clear hE av;go_wp2_with fail;rw[HF,O];exact⟨rfl,rfl⟩
set_option maxHeartbeats 16000000
theorem iq{w w':World}{j:Nat}{x:Int}{e:Ending}:GQ w (.bad j x) e w'↔∃A' c',e=.returned (.agg #[.int .i64 0,.int .i64 0,.string ⟨#[]⟩,.slice A' 0 c',.int .i64 (j:Nat),.int .i64 x])∧aD (fun q=>w.heap.size≤q) w' A' c' dG∧Below w.heap.size w w':=Iff.rfl
theorem vS{w w':World}{j:Nat}{t:Tm}{e:Ending}:GQ w (.ok t j) e w'↔∃A' c',e=.returned (.agg #[.int .i64 t.op,.int .i64 t.num,.string t.name,.slice A' t.kids.length c',.int .i64 (j:Nat),.int .i64 0])∧aD (fun q=>w.heap.size≤q) w' A' c' t∧Below w.heap.size w w':=Iff.rfl
theorem aiD{w:World}{b:Nat}{D G I J O Y:Value}{T:TypeId}(h:w.heap[b]?=some (.cells #[D,G,I,J,O,Y] T (0,0))) :
 (w.cell? ⟨b,0,none⟩=some D∧w.frozen? ⟨b,0,none⟩=false)∧(w.cell? ⟨b,1,none⟩=some G∧w.frozen? ⟨b,1,none⟩=false)∧(w.cell? ⟨b,2,none⟩=some I∧w.frozen? ⟨b,2,none⟩=false)∧(w.cell? ⟨b,3,none⟩=some J∧w.frozen? ⟨b,3,none⟩=false)∧(w.cell? ⟨b,4,none⟩=some O∧w.frozen? ⟨b,4,none⟩=false)∧w.cell? ⟨b,5,none⟩=some Y∧w.frozen? ⟨b,5,none⟩=false:=
 ⟨⟨by rw[cR w b 0 _ _ (0,0) h];rfl,by simp[World.frozen?,h]⟩,⟨by rw[cR w b 1 _ _ (0,0) h];rfl,by simp[World.frozen?,h]⟩,⟨by rw[cR w b 2 _ _ (0,0) h];rfl,by simp[World.frozen?,h]⟩,⟨by rw[cR w b 3 _ _ (0,0) h];rfl,by simp[World.frozen?,h]⟩,⟨by rw[cR w b 4 _ _ (0,0) h];rfl,by simp[World.frozen?,h]⟩,by rw[cR w b 5 _ _ (0,0) h];rfl,by simp[World.frozen?,h]⟩
theorem tV(A:Option Addr)(c:Nat)(l:List Tok)(w:World)(hP:dP w A c l)(J:Ending→World→Prop):∃(n I:Nat)(w1:World)(F:Ending→World→Prop),n≤100000∧n≤c∧c≤2^63-1∧w1.heap.size=I+1 ∧
 Hid (w1.heap[I]?=some (.cells #[.int .i64 0,.int .i64 0,.string ⟨#[]⟩,.slice none 0 0,.int .i64 0,.int .i64 0] 194 (0,0)))∧Hid (Below w.heap.size w w1)∧Hid (dP w A c l)∧Hid (dP w1 A c l) ∧
 Hid (∀(i:Nat)(s:ByteArray),i≤1000000→Calls Tryz.prog 154 #[.slice A n c,.int .i64 (i:Nat),.string s] w1 fun e w'=>e=.returned (.bool (ah l i 4 (bs s)))∧w'=w1) ∧
 Hid (∀(i:Nat)(k:Int)(s:ByteArray),i≤1000000→Calls Tryz.prog 183 #[.slice A n c,.int .i64 (i:Nat),.int .i64 k,.string s] w1 fun e w'=>e=.returned (.bool (ah l i k (bs s)))∧w'=w1) ∧
 Hid (F=J)∧Hid (n=l.length)∧Hid (I=w.heap.size)∧Hid (w1=w.alloc (.cells #[.int .i64 0,.int .i64 0,.string ⟨#[]⟩,.slice none 0 0,.int .i64 0,.int .i64 0] 194)):=by
 have G:Below w.heap.size w (w.alloc (.cells #[.int .i64 0,.int .i64 0,.string ⟨#[]⟩,.slice none 0 0,.int .i64 0,.int .i64 0] 194)):=(Br _ _).alloc (lr _) _;have D:=hP.bU;unfold maxLen at D;exact⟨l.length,w.heap.size,_,J,hP.len,hP.cap,D,by simp,eu w _,G,hP,hP.below G,fun i s h=>qB A c i l s _ (hP.below G) h,fun i k s h=>Dk A c i l k s _ (hP.below G) h,rfl,rfl,rfl,rfl⟩
theorem uS{A:Option Addr}{c i n:Nat}{l:List Tok}{w w1:World}{t:Tok}(J:Hid (dP w A c l))(G:Hid (Below w.heap.size w w1))(I:Hid (n=l.length))(ht:l[i]?=some t):∃b off,A=some ⟨b,off,none⟩∧b<w.heap.size∧i<n∧b<w1.heap.size∧(0:Int)≤(i:Int)∧(i:Int)<(n:Int) ∧
 (∀(k:Nat)(z:Tok),l[k]?=some z→∀j,j<4→w.cell? ⟨b,off+k*4+j,none⟩=some (fZ z j))∧(∀(k:Nat)(z:Tok),l[k]?=some z→∀j,j<4→w1.cell? ⟨b,off+k*4+j,none⟩=some (fZ z j)):=by
 rcases J.toks with h0|⟨b,off,rfl,hb,hc⟩
 ·rw[h0]at ht;simp at ht
 have D:i<n:=by rw[I];exact(gE.1 ht).1
 exact⟨b,off,rfl,hb,D,lL hb G.size,by omega,by omega,hc,fun k z Y j O=>by rw[G.cell (p:=⟨b,_,none⟩) hb];exact hc k z Y j O⟩
theorem aaf(A:Option Addr)(c d:Nat)(l:List Tok)(i:Nat)(w:World)(t:Tok)(ht:l[i]?=some t)(J:t.kind=1)(hi:i≤l.length)(hP:dP w A c l) :
 Calls Tryz.prog 214 #[.slice A l.length c,.int .i64 (i:Nat),.int .i64 (d:Nat)] w (GQ w (.ok (j6 t.n) (i+1))):=by
 obtain⟨n,b6,w1,F,hlen,ao,ae,ar,X6,HB,HP,uy,HS,HI,I,G,bZ,aa⟩:=tV A c l w hP (GQ w (.ok (j6 t.n) (i+1)));rw[←I,←G];rw[←G]at hi;clear hP;obtain⟨b,off,rfl,hb,af,ab,ag,ai,hc,D⟩:=uS HP HB G ht;have O:=D i t ht 0 (by omega);have Y:=hc i t ht 0 (by omega);have x1:=D i t ht 1 (by omega);have y1:=hc i t ht 1 (by omega);simp only[fZ,Nat.add_zero]at O Y x1 y1;rw[J]at O Y;go_in;clear D hc ht J;go_wp2_with fail;refine bR (sJ (eu w _)) rfl ?_;rw[I];exact⟨none,0,rfl,aD.leaf (zl _),(Br _ _).alloc (lr _) _⟩
theorem Vs(A:Option Addr)(c d:Nat)(l:List Tok)(i:Nat)(w:World)(t:Tok)(ht:l[i]?=some t)(O:t.kind=2)(hi:i≤l.length)(hP:dP w A c l) :
 Calls Tryz.prog 214 #[.slice A l.length c,.int .i64 (i:Nat),.int .i64 (d:Nat)] w (GQ w (.ok (iH 3 t.text) (i+1))):=by
 obtain⟨n,b6,w1,F,hlen,ao,ae,ar,X6,HB,J,uy,HS,HI,I,G,bZ,aa⟩:=tV A c l w hP (GQ w (.ok (iH 3 t.text) (i+1)));rw[←I,←G];rw[←G]at hi;clear hP;obtain⟨b,off,rfl,hb,af,ab,ag,ai,hc,D⟩:=uS J HB G ht;have Y:=D i t ht 0 (by omega);have y0:=hc i t ht 0 (by omega);have x2:=D i t ht 2 (by omega);have y2:=hc i t ht 2 (by omega);simp only[fZ,Nat.add_zero]at Y y0 x2 y2;rw[O]at Y y0;go_in;have CF:=Hd (J.txt t (mG ht));clear D hc ht O;go_wp2_with fail;refine bR (sJ (eu w _)) rfl ?_;rw[I];exact⟨none,0,rfl,aD.leaf (by have:=CF.out;show t.text.toArray.size≤_;unfold maxLen;simp;omega),(Br _ _).alloc (lr _) _⟩
theorem Vt(A:Option Addr)(c d:Nat)(l:List Tok)(i:Nat)(w:World)(dB:ah l i 4 [45]=false)(gY:ah l i 3 [116,114,117,101]=true)(hi:i≤l.length)(hP:dP w A c l) :
 Calls Tryz.prog 214 #[.slice A l.length c,.int .i64 (i:Nat),.int .i64 (d:Nat)] w (GQ w (.ok (jv 1) (i+1))):=by
 obtain⟨n,b6,w1,F,hlen,ai,ab,ao,Y,HB,HP,uy,HS,HI,HF,J,bZ,O⟩:=tV A c l w hP (GQ w (.ok (jv 1) (i+1)));rw[←HF,←J];rw[←J]at hi;clear hP;obtain⟨t,ht,hk,-⟩:=jh gY;obtain⟨b,off,rfl,hb,ae,aa,af,ag,hc,D⟩:=uS HP HB J ht;have x0:=D i t ht 0 (by omega);have y0:=hc i t ht 0 (by omega);simp only[fZ,Nat.add_zero]at x0 y0;rw[hk]at x0 y0;go_in;have hI:=HS i ⟨#[45]⟩ (by omega);rw[show ah l i 4 (bs ⟨#[45]⟩)=false from dB]at hI;have G:=Hd hI;clear hI;go_wp2_with fail;rw[←O]
 try rw[←bZ]
 refine G.mono ?_;rintro e w' ⟨rfl,I⟩;rw[I];clear I G;have hI:=HI i 3 ⟨#[116,114,117,101]⟩ (by omega);rw[show ah l i 3 (bs ⟨#[116,114,117,101]⟩)=true from gY]at hI;have G:=Hd hI;clear hI;go_wp2_with fail;refine G.mono ?_;rintro e w' ⟨rfl,I⟩;rw[I];clear I G;obtain⟨v0,v1,v2,v3,v4,v5,zq⟩:=q6 Y;have l6:b6<w1.heap.size:=lH Y;clear D hc ht hk;go_wp2_with fail;clear v0 v1 v2 v3 v4 v5 zq l6;refine bR (sJ (iG Y)) rfl ?_;rw[HF];exact fF (r:=.ok (jv 1) (i+1)) (A':=none) (c':=0) _ _ _ _ _ _ bZ (aD.leaf (zl _)) HB
theorem Sr(A:Option Addr)(c d:Nat)(l:List Tok)(i:Nat)(w:World)(dB:ah l i 4 [45]=false)(gY:ah l i 3 [116,114,117,101]=false)(fJ:ah l i 3 [102,97,108,115,101]=true)(hi:i≤l.length)(hP:dP w A c l) :
 Calls Tryz.prog 214 #[.slice A l.length c,.int .i64 (i:Nat),.int .i64 (d:Nat)] w (GQ w (.ok (jv 0) (i+1))):=by
 obtain⟨n,b6,w1,F,hlen,ai,ab,ao,Y,HB,HP,uy,HS,HI,HF,J,bZ,O⟩:=tV A c l w hP (GQ w (.ok (jv 0) (i+1)));rw[←HF,←J];rw[←J]at hi;clear hP;obtain⟨t,ht,hk,-⟩:=jh fJ;obtain⟨b,off,rfl,hb,ae,aa,af,ag,hc,D⟩:=uS HP HB J ht;have x0:=D i t ht 0 (by omega);have y0:=hc i t ht 0 (by omega);simp only[fZ,Nat.add_zero]at x0 y0;rw[hk]at x0 y0;go_in;have hI:=HS i ⟨#[45]⟩ (by omega);rw[show ah l i 4 (bs ⟨#[45]⟩)=false from dB]at hI;have G:=Hd hI;clear hI;go_wp2_with fail;rw[←O]
 try rw[←bZ]
 refine G.mono ?_;rintro e w' ⟨rfl,I⟩;rw[I];clear I G;have hI:=HI i 3 ⟨#[116,114,117,101]⟩ (by omega);rw[show ah l i 3 (bs ⟨#[116,114,117,101]⟩)=false from gY]at hI;have G:=Hd hI;clear hI;go_wp2_with fail;refine G.mono ?_;rintro e w' ⟨rfl,I⟩;rw[I];clear I G;have hI:=HI i 3 ⟨#[102,97,108,115,101]⟩ (by omega);rw[show ah l i 3 (bs ⟨#[102,97,108,115,101]⟩)=true from fJ]at hI;have G:=Hd hI;clear hI;go_wp2_with fail;refine G.mono ?_;rintro e w' ⟨rfl,I⟩;rw[I];clear I G;obtain⟨v0,v1,v2,v3,v4,v5,zq⟩:=q6 Y;have l6:b6<w1.heap.size:=lH Y;clear D hc ht hk;go_wp2_with fail;clear v0 v1 v2 v3 v4 v5 zq l6;refine bR (sJ (iG Y)) rfl ?_;rw[HF];exact fF (r:=.ok (jv 0) (i+1)) (A':=none) (c':=0) _ _ _ _ _ _ bZ (aD.leaf (zl _)) HB
theorem kM{l:List Tok}{i:Nat}{t:Tok}{k:Int}{s:Bs}(h:l[i]?=some t)(D:t.kind≠k):ah l i k s=false:=by
 unfold ah;rw[h];simp[D]
theorem nC{l:List Tok}{i:Nat}{k:Int}{s:Bs}(h:l.length≤i):ah l i k s=false:=by
 unfold ah;rw[List.getElem?_eq_none h]
theorem Af{l:List Tok}{i:Nat}{t:Tok}{k:Int}(h:l[i]?=some t)(D:t.kind≠k):jd l i k=false:=by
 unfold jd;rw[h];simp[D]
theorem Ir{l:List Tok}{i:Nat}{k:Int}(h:l.length≤i):jd l i k=false:=by
 unfold jd;rw[List.getElem?_eq_none h]
theorem Iu{l:List Tok}{i:Nat}{t:Tok}{k:Int}(h:l[i]?=some t)(D:t.kind=k):jd l i k=true:=by
 unfold jd;rw[h];simp[D]
theorem aoZ(A:Option Addr)(c d:Nat)(l:List Tok)(i:Nat)(w:World)(dB:ah l i 4 [45]=false)(gY:ah l i 3 [116,114,117,101]=false)(fJ:ah l i 3 [102,97,108,115,101]=false)(eT:ah l i 3 [110,101,120,116]=true)(r:Rs Tm)(hr:r=if ah l (i+1) 4 [40]then(if jd l (i+2) 2 then(if ah l (i+3) 4 [41]then .ok (iH 4 (pJ l (i+2))) (i+4)else .bad (i+3) 16)else .bad (i+2) 16)else .bad (i+1) 16)(hi:i≤l.length)(hP:dP w A c l) :
 Calls Tryz.prog 214 #[.slice A l.length c,.int .i64 (i:Nat),.int .i64 (d:Nat)] w (GQ w r):=by
 obtain⟨n,b6,w1,F,hlen,a8,aP,ba,X6,HB,HP,uy,HS,HI,HF,HN,bZ,ar⟩:=tV A c l w hP (GQ w r);rw[←HF,←HN];rw[←HN]at hi;clear hP;have HR:=Hd hr;clear hr;obtain⟨t,ht,hk,-⟩:=jh eT;obtain⟨b,off,rfl,hb,aQ,aF,aS,a6,hc,G⟩:=uS HP HB HN ht;have x0:=G i t ht 0 (by omega);have y0:=hc i t ht 0 (by omega);simp only[fZ,Nat.add_zero]at x0 y0;rw[hk]at x0 y0;go_in;have hI:=HS i ⟨#[45]⟩ (by omega);rw[show ah l i 4 (bs ⟨#[45]⟩)=false from dB]at hI;have D:=Hd hI;clear hI;go_wp2_with fail;rw[←ar]
 try rw[←bZ]
 refine D.mono ?_;rintro e w' ⟨rfl,I⟩;rw[I];clear I D;have hI:=HI i 3 ⟨#[116,114,117,101]⟩ (by omega);rw[show ah l i 3 (bs ⟨#[116,114,117,101]⟩)=false from gY]at hI;have D:=Hd hI;clear hI;go_wp2_with fail;refine D.mono ?_;rintro e w' ⟨rfl,I⟩;rw[I];clear I D;have hI:=HI i 3 ⟨#[102,97,108,115,101]⟩ (by omega);rw[show ah l i 3 (bs ⟨#[102,97,108,115,101]⟩)=false from fJ]at hI;have D:=Hd hI;clear hI;go_wp2_with fail;refine D.mono ?_;rintro e w' ⟨rfl,I⟩;rw[I];clear I D;have hI:=HI i 3 ⟨#[110,101,120,116]⟩ (by omega);rw[show ah l i 3 (bs ⟨#[110,101,120,116]⟩)=true from eT]at hI;have D:=Hd hI;clear hI;go_wp2_with fail;refine D.mono ?_;rintro e w' ⟨rfl,I⟩;rw[I];clear I D
 by_cases ae:ah l (i+1) 4 [40]=true
 ·have Y:=ae
  rcases Nat.lt_or_ge (i+2) l.length with az|ai
  ·obtain⟨t3,JG⟩:∃t,l[i+2]?=some t:=⟨_,gG az⟩
   by_cases Vw:t3.kind=2
   ·have av:i+2<n:=by rw[HN];exact(gE.1 JG).1
    have af:=G (i+2) t3 JG 0 (by omega);have ay:=G (i+2) t3 JG 2 (by omega);simp only[fZ,Nat.add_zero]at af ay;rw[Vw]at af;have aw:(0:Int)≤(i:Int)+2:=by omega
    have Oq:(i:Int)+2<(n:Int):=by omega
    have ax:((i:Int)+2).toNat=i+2:=by omega
    have ao:¬(n:Int)≤(i:Int)+2:=by omega
    by_cases ab:ah l (i+3) 4 [41]=true
    ·have ag:=ab;have bE:Hid (r=.ok (iH 4 t3.text) (i+4)):=by show _=_;rw[HR,iP Y,iP (Iu JG Vw),iP ag,DW JG]
     have CF:=Hd (HP.txt t3 (mG JG));obtain⟨v0,v1,v2,v3,v4,v5,zq⟩:=q6 X6;have l6:b6<w1.heap.size:=lH X6;clear G hc ht hk JG Vw;have hI:=HS (i+1) ⟨#[40]⟩ (by omega);rw[show ah l (i+1) 4 (bs ⟨#[40]⟩)=true from Y,show((i+1:Nat):Int)=(i:Int)+1 from by omega]at hI;have D:=Hd hI;clear hI;go_wp2_with fail;refine D.mono ?_;rintro e w' ⟨rfl,I⟩;rw[I];clear I D;have hI:=HS (i+3) ⟨#[41]⟩ (by omega);rw[show ah l (i+3) 4 (bs ⟨#[41]⟩)=true from ag,show((i+3:Nat):Int)=(i:Int)+3 from by omega]at hI;have D:=Hd hI;clear hI;go_wp2_with fail;refine D.mono ?_;rintro e w' ⟨rfl,I⟩;rw[I];clear I D;go_wp2_with fail;clear v0 v1 v2 v3 v4 v5 zq l6;refine bR (sJ (iG X6)) rfl ?_;rw[HF,bE];exact fF (r:=.ok (iH 4 t3.text) (i+4)) (A':=none) (c':=0) _ _ _ _ _ _ bZ (aD.leaf (by have:=CF.out;show t3.text.toArray.size≤_;unfold maxLen;simp;omega)) HB
    ·have ag:ah l (i+3) 4 [41]=false:=by simpa using ab
     have bE:Hid (r=.bad (i+3) 16):=by show _=_;rw[HR,iP Y,iP (Iu JG Vw),iN ab]
     clear G hc ht hk JG Vw;have hI:=HS (i+1) ⟨#[40]⟩ (by omega);rw[show ah l (i+1) 4 (bs ⟨#[40]⟩)=true from Y,show((i+1:Nat):Int)=(i:Int)+1 from by omega]at hI;have D:=Hd hI;clear hI;go_wp2_with fail;refine D.mono ?_;rintro e w' ⟨rfl,I⟩;rw[I];clear I D;have hI:=HS (i+3) ⟨#[41]⟩ (by omega);rw[show ah l (i+3) 4 (bs ⟨#[41]⟩)=false from ag,show((i+3:Nat):Int)=(i:Int)+3 from by omega]at hI;have D:=Hd hI;clear hI;go_wp2_with fail;refine D.mono ?_;rintro e w' ⟨rfl,I⟩;rw[I];clear I D;have O:=ig (i+3) 16 w1;rw[show((i+3:Nat):Int)=(i:Int)+3 from by omega]at O;have D:=Hd O;clear O;go_wp2_with fail;refine D.mono ?_;intro e w2 hq;obtain⟨A',c',rfl,hV,J⟩:=iq.1 hq;have zm:=kX J X6;have aa:=kB HB J;have HV:Hid (aD (fun q=>w.heap.size<q) w2 A' c' dG):=hV.keep Kr (fun q _ h=>by have:=bZ.out;omega);obtain⟨v0,v1,v2,v3,v4,v5,zq⟩:=q6 zm;have l6:b6<w2.heap.size:=lH zm;clear hq hV J D;go_wp2_with fail;clear v0 v1 v2 v3 v4 v5 zq l6;refine bR (sJ (iG zm)) rfl ?_;rw[HF,bE];exact fF (r:=.bad (i+3) 16) (A':=A') (c':=c') _ _ _ _ _ _ bZ HV aa
   ·have bE:Hid (r=.bad (i+2) 16):=by show _=_;rw[HR,iP Y,iN (by rw[Af JG Vw];simp)]
    have av:i+2<n:=by rw[HN];exact(gE.1 JG).1
    have af:=G (i+2) t3 JG 0 (by omega);simp only[fZ,Nat.add_zero]at af;have a7:(t3.kind != 2)=true:=by simpa using Vw
    have aw:(0:Int)≤(i:Int)+2:=by omega
    have Oq:(i:Int)+2<(n:Int):=by omega
    have ax:((i:Int)+2).toNat=i+2:=by omega
    have ao:¬(n:Int)≤(i:Int)+2:=by omega
    clear G hc ht hk JG Vw;have hI:=HS (i+1) ⟨#[40]⟩ (by omega);rw[show ah l (i+1) 4 (bs ⟨#[40]⟩)=true from Y,show((i+1:Nat):Int)=(i:Int)+1 from by omega]at hI;have D:=Hd hI;clear hI;go_wp2_with fail;refine D.mono ?_;rintro e w' ⟨rfl,I⟩;rw[I];clear I D;have O:=ig (i+2) 16 w1;rw[show((i+2:Nat):Int)=(i:Int)+2 from by omega]at O;have D:=Hd O;clear O;go_wp2_with fail;refine D.mono ?_;intro e w2 hq;obtain⟨A',c',rfl,hV,J⟩:=iq.1 hq;have zm:=kX J X6;have aa:=kB HB J;have HV:Hid (aD (fun q=>w.heap.size<q) w2 A' c' dG):=hV.keep Kr (fun q _ h=>by have:=bZ.out;omega);obtain⟨v0,v1,v2,v3,v4,v5,zq⟩:=q6 zm;have l6:b6<w2.heap.size:=lH zm;clear hq hV J D;go_wp2_with fail;clear v0 v1 v2 v3 v4 v5 zq l6;refine bR (sJ (iG zm)) rfl ?_;rw[HF,bE];exact fF (r:=.bad (i+2) 16) (A':=A') (c':=c') _ _ _ _ _ _ bZ HV aa
  ·have bE:Hid (r=.bad (i+2) 16):=by show _=_;rw[HR,iP Y,iN (by rw[Ir ai];simp)]
   have aE:=dL Y;have ao:(n:Int)≤(i:Int)+2:=by have:=HN.out;omega
   clear G hc ht hk ai;have hI:=HS (i+1) ⟨#[40]⟩ (by omega);rw[show ah l (i+1) 4 (bs ⟨#[40]⟩)=true from Y,show((i+1:Nat):Int)=(i:Int)+1 from by omega]at hI;have D:=Hd hI;clear hI;go_wp2_with fail;refine D.mono ?_;rintro e w' ⟨rfl,I⟩;rw[I];clear I D;have O:=ig (i+2) 16 w1;rw[show((i+2:Nat):Int)=(i:Int)+2 from by omega]at O;have D:=Hd O;clear O;go_wp2_with fail;refine D.mono ?_;intro e w2 hq;obtain⟨A',c',rfl,hV,J⟩:=iq.1 hq;have zm:=kX J X6;have aa:=kB HB J;have HV:Hid (aD (fun q=>w.heap.size<q) w2 A' c' dG):=hV.keep Kr (fun q _ h=>by have:=bZ.out;omega);obtain⟨v0,v1,v2,v3,v4,v5,zq⟩:=q6 zm;have l6:b6<w2.heap.size:=lH zm;clear hq hV J D;go_wp2_with fail;clear v0 v1 v2 v3 v4 v5 zq l6;refine bR (sJ (iG zm)) rfl ?_;rw[HF,bE];exact fF (r:=.bad (i+2) 16) (A':=A') (c':=c') _ _ _ _ _ _ bZ HV aa
 ·have Y:ah l (i+1) 4 [40]=false:=by simpa using ae
  have bE:Hid (r=.bad (i+1) 16):=by show _=_;rw[HR,iN ae]
  clear G hc ht hk;have hI:=HS (i+1) ⟨#[40]⟩ (by omega);rw[show ah l (i+1) 4 (bs ⟨#[40]⟩)=false from Y,show((i+1:Nat):Int)=(i:Int)+1 from by omega]at hI;have D:=Hd hI;clear hI;go_wp2_with fail;refine D.mono ?_;rintro e w' ⟨rfl,I⟩;rw[I];clear I D;have O:=ig (i+1) 16 w1;rw[show((i+1:Nat):Int)=(i:Int)+1 from by omega]at O;have D:=Hd O;clear O;go_wp2_with fail;refine D.mono ?_;intro e w2 hq;obtain⟨A',c',rfl,hV,J⟩:=iq.1 hq;have zm:=kX J X6;have aa:=kB HB J;have HV:Hid (aD (fun q=>w.heap.size<q) w2 A' c' dG):=hV.keep Kr (fun q _ h=>by have:=bZ.out;omega);obtain⟨v0,v1,v2,v3,v4,v5,zq⟩:=q6 zm;have l6:b6<w2.heap.size:=lH zm;clear hq hV J D;go_wp2_with fail;clear v0 v1 v2 v3 v4 v5 zq l6;refine bR (sJ (iG zm)) rfl ?_;rw[HF,bE];exact fF (r:=.bad (i+1) 16) (A':=A') (c':=c') _ _ _ _ _ _ bZ HV aa
theorem aoY(A:Option Addr)(c d:Nat)(l:List Tok)(i:Nat)(w:World)(dB:ah l i 4 [45]=true)(r:Rs Tm)(hr:r=if jd l (i+1) 1 then .ok (j6 (-rC l (i+1))) (i+2)else .bad (i+1) 16)(hi:i≤l.length)(hP:dP w A c l) :
 Calls Tryz.prog 214 #[.slice A l.length c,.int .i64 (i:Nat),.int .i64 (d:Nat)] w (GQ w r):=by
 obtain⟨n,b6,w1,F,hlen,aS,az,a7,X6,HB,HP,uy,HS,HI,HF,HN,bZ,af⟩:=tV A c l w hP (GQ w r);rw[←HF,←HN];rw[←HN]at hi;clear hP;have HR:=Hd hr;clear hr;obtain⟨t,ht,hk,-⟩:=jh dB;obtain⟨b,off,rfl,hb,aE,ay,aF,aP,hc,D⟩:=uS HP HB HN ht;have x0:=D i t ht 0 (by omega);have y0:=hc i t ht 0 (by omega);simp only[fZ,Nat.add_zero]at x0 y0;rw[hk]at x0 y0;go_in;have hI:=HS i ⟨#[45]⟩ (by omega);rw[show ah l i 4 (bs ⟨#[45]⟩)=true from dB]at hI;have HC:=Hd hI;clear hI;go_wp2_with fail;rw[←af]
 try rw[←bZ]
 refine HC.mono ?_;rintro e w' ⟨rfl,aJ⟩;rw[aJ];clear aJ HC
 rcases Nat.lt_or_ge (i+1) l.length with aw|ae
 ·obtain⟨t2,O⟩:∃t,l[i+1]?=some t:=⟨_,gG aw⟩
  by_cases J:t2.kind=1
  ·have bE:Hid (r=.ok (j6 (-t2.n)) (i+2)):=by show _=_;rw[HR,iP (Iu O J),G8 O]
   have ag:i+1<n:=by rw[HN];exact(gE.1 O).1
   have Y:=D (i+1) t2 O 0 (by omega);have ao:=D (i+1) t2 O 1 (by omega);simp only[fZ,Nat.add_zero]at Y ao;rw[J]at Y;have ab:(0:Int)≤(i:Int)+1:=by omega
   have ar:(i:Int)+1<(n:Int):=by omega
   have av:((i:Int)+1).toNat=i+1:=by omega
   have ai:=HP.rng t2 (mG O);have ax:IntKind.i64.wrap (-t2.n)=-t2.n:=IntWalk.i64_in _ (by omega);obtain⟨v0,v1,v2,v3,v4,v5,zq⟩:=q6 X6;have l6:b6<w1.heap.size:=lH X6;clear D hc ht hk O J ai;go_wp2_with fail;clear v0 v1 v2 v3 v4 v5 zq l6;refine bR (sJ (iG X6)) rfl ?_;rw[HF,bE];exact fF (r:=.ok (j6 (-t2.n)) (i+2)) (A':=none) (c':=0) _ _ _ _ _ _ bZ (aD.leaf (zl _)) HB
  ·have bE:Hid (r=.bad (i+1) 16):=by show _=_;rw[HR,iN (by rw[Af O J];simp)]
   have ag:i+1<n:=by rw[HN];exact(gE.1 O).1
   have Y:=D (i+1) t2 O 0 (by omega);simp only[fZ,Nat.add_zero]at Y;have aQ:(t2.kind==1)=false:=by simpa using J
   have ab:(0:Int)≤(i:Int)+1:=by omega
   have ar:(i:Int)+1<(n:Int):=by omega
   have av:((i:Int)+1).toNat=i+1:=by omega
   clear D hc ht hk O J;have I:=ig (i+1) 16 w1;rw[show((i+1:Nat):Int)=(i:Int)+1 from by omega]at I;have HC:=Hd I;clear I;go_wp2_with fail;refine HC.mono ?_;intro e w2 hq;obtain⟨A',c',rfl,hV,G⟩:=iq.1 hq;have zm:=kX G X6;have aa:=kB HB G;have HV:Hid (aD (fun q=>w.heap.size<q) w2 A' c' dG):=hV.keep Kr (fun q _ h=>by have:=bZ.out;omega);obtain⟨v0,v1,v2,v3,v4,v5,zq⟩:=q6 zm;have l6:b6<w2.heap.size:=lH zm;clear hq hV G HC;go_wp2_with fail;clear v0 v1 v2 v3 v4 v5 zq l6;refine bR (sJ (iG zm)) rfl ?_;rw[HF,bE];exact fF (r:=.bad (i+1) 16) (A':=A') (c':=c') _ _ _ _ _ _ bZ HV aa
 ·have bE:Hid (r=.bad (i+1) 16):=by show _=_;rw[HR,iN (by rw[Ir ae];simp)]
  have a6:¬(i:Int)+1<(n:Int):=by have:=HN.out;omega
  clear D hc ht hk ae;have I:=ig (i+1) 16 w1;rw[show((i+1:Nat):Int)=(i:Int)+1 from by omega]at I;have HC:=Hd I;clear I;go_wp2_with fail;refine HC.mono ?_;intro e w2 hq;obtain⟨A',c',rfl,hV,G⟩:=iq.1 hq;have zm:=kX G X6;have aa:=kB HB G;have HV:Hid (aD (fun q=>w.heap.size<q) w2 A' c' dG):=hV.keep Kr (fun q _ h=>by have:=bZ.out;omega);obtain⟨v0,v1,v2,v3,v4,v5,zq⟩:=q6 zm;have l6:b6<w2.heap.size:=lH zm;clear hq hV G HC;go_wp2_with fail;clear v0 v1 v2 v3 v4 v5 zq l6;refine bR (sJ (iG zm)) rfl ?_;rw[HF,bE];exact fF (r:=.bad (i+1) 16) (A':=A') (c':=c') _ _ _ _ _ _ bZ HV aa
structure Kg(w:World)(b11:Nat)(l:List Tok)(i op:Int)(sign:Bs)(P:gK)(r:Rs Fm)(wr:World)(k j fuel:Nat)(x:FV):Prop where
 x6:wr.heap[w.heap.size]?=some (.cells #[.int .i64 0,.int .i64 0,.int .i64 0,.string ⟨#[]⟩,.slice none 0 0,.slice none 0 0,.int .i64 0,.int .i64 0] 197 (0,0))
 M8:wr.heap[b11]?=some (.cells #[.int .i64 x.o,.int .i64 x.tn,.int .i64 x.tm,.string x.s,.slice x.Ae x.ne x.ce,.slice x.A x.n x.c,.int .i64 ((if k=0 then 0 else j):Nat),.int .i64 0] 197 (0,0))
 below:Below w.heap.size w wr
 kj:k≤j
 jl:j≤l.length
 fu:l.length≤fuel+j
 zero:k=0→((P j).then fun f m=>mH l op sign P fuel f m)=r
 more:k≠0→∃f,x.Is (fun q=>w.heap.size<q∧q≠b11) wr f∧mH l op sign P fuel f j=r
theorem aoP(l:List Tok)(d:Nat)(b:Bool)(op:Int)(sg:Bs)(P:gK)(hd:d≤256)(hb:(b=true∧op=3∧sg=[38]∧Vp l d 184 P)∨(b=false∧op=4∧sg=[124]∧acS l d 156 true P))(hG:xV l P)(hZ:vw P):acS l d 156 b (Eo l op sg P):=by
 rcases hb with⟨hb,bg,bh,hF⟩|⟨hb,bg,bh,hF⟩
 all_goals
  subst hb;have gy:=Hd bg;have qj:=Hd bh;clear bg bh;intro A c i w hi hP;have Am:=Hd (hF A c);obtain⟨w1,hw1⟩:=aj (w.alloc (.cells #[.int .i64 0,.int .i64 0,.int .i64 0,.string ⟨#[]⟩,.slice none 0 0,.slice none 0 0,.int .i64 0,.int .i64 0] 197));have hb1:=dz hw1;have b0:w1.heap.size=w.heap.size+1:=by rw[hw1];simp
  have X6:=jZ hw1 rfl;have HB:=Hd hb1;have bo:=Hd hw1;have HP:=Hd hP;have hlen:=hP.len;have bd:=hP.cap;have aQ:=hP.bU;unfold maxLen at aQ;obtain⟨n,hn⟩:=aj l.length;have HN:=Hd hn;rw[←hn]at hi hlen bd;obtain⟨r,hr⟩:=aj (Eo l op sg P i);obtain⟨F,vU⟩:=aj (uZ w r);rw[←hr,←vU];have Kq:Hid (((P i).then fun f m=>mH l op sg P l.length f m)=r):=by show _=_;rw[hr];rfl
  have HF:=Hd vU;have HG:=Hd hG;have HZ:=Hd hZ;rw[←hn];obtain⟨D,a8⟩:=aj (w.heap.size+1);obtain⟨w2,aF⟩:=aj (w1.alloc (.cells #[.int .i64 0,.int .i64 0,.int .i64 0,.string ⟨#[]⟩,.slice none 0 0,.slice none 0 0,.int .i64 0,.int .i64 0] 197));have I:=dz aF
  have M8:w2.heap[D]?=some (.cells #[.int .i64 0,.int .i64 0,.int .i64 0,.string ⟨#[]⟩,.slice none 0 0,.slice none 0 0,.int .i64 0,.int .i64 0] 197 (0,0)):=by
   have h:=eu w1 (.cells #[.int .i64 0,.int .i64 0,.int .i64 0,.string ⟨#[]⟩,.slice none 0 0,.slice none 0 0,.int .i64 0,.int .i64 0] 197);rw[aF,a8];rw[b0]at h;exact h
  have JO:Hid (Kg w D l i op sg P r w2 0 i l.length FV.zero):=⟨(I.block w.heap.size (by omega)).trans X6,M8,HB.trans (I.mono (by omega)),zl _,by rw[←hn];exact hi,by omega,fun _=>Kq,fun h=>absurd rfl h⟩;have bp:Hid (w2=(w.alloc (.cells #[.int .i64 0,.int .i64 0,.int .i64 0,.string ⟨#[]⟩,.slice none 0 0,.slice none 0 0,.int .i64 0,.int .i64 0] 197)).alloc (.cells #[.int .i64 0,.int .i64 0,.int .i64 0,.string ⟨#[]⟩,.slice none 0 0,.slice none 0 0,.int .i64 0,.int .i64 0] 197)):=by show _=_;rw[aF,hw1]
  have br:=Hd a8;have b4:w.heap.size<D:=by omega
  clear vU hF hG hZ hw1 hP hn hr hb1 X6 HB bo a8 aF I M8 Kq;go_in;go_wp2_with fail;rw[←bp,←br]
  go_loopw [1,12] (fun si sn wr=>∃(k j fuel:Nat)(x:FV),si=.int .i64 (j:Nat)∧sn=.int .i64 (k:Nat)∧Kg w D l i op sg P r wr k j fuel x) (fun si sn _=>if intOf sn=0 then l.length+2 else l.length+1-(intOf si).toNat)
  case atStart=>exact⟨0,i,l.length,FV.zero,rfl,rfl,JO⟩
  case round=>
   obtain⟨k,j,fuel,x,rfl,rfl,hS⟩:=hrel;clear JO;have HS:=Hd hS;have HB:=Hd hS.below;have X6:=Hd hS.x6;have b9:=hS.kj;have bP:=hS.jl;rw[←HN]at bP;clear hS
   by_cases hk:k=0
   ·subst hk;have bE:Hid (((P j).then fun f m=>mH l op sg P fuel f m)=r):=HS.zero rfl;have He:Hid (l.length≤fuel+j):=HS.fu;have Y:Hid (wr.heap[D]?=some (.cells #[.int .i64 x.o,.int .i64 x.tn,.int .i64 x.tm,.string x.s,.slice x.Ae x.ne x.ce,.slice x.A x.n x.c,.int .i64 (0:Nat),.int .i64 0] 197 (0,0))):=HS.M8;clear HS;rw[show((0:Nat):Int)=0 from rfl];obtain⟨G,pV⟩:=aj wr.heap.size;obtain⟨wb,ab⟩:=aj (wr.alloc (.cells #[.int .i64 0,.int .i64 0,.int .i64 0,.string ⟨#[]⟩,.slice none 0 0,.slice none 0 0,.int .i64 0,.int .i64 0] 197));have Dl:=jZ ab pV;have I:=dz ab;have bu:D<G:=by have:=lH Y;omega
    have Ky:=Hd pV;have aP:=Hd ab;clear pV ab;replace X6:=kX I X6;replace Y:=kX I Y;replace HB:=kB HB I;clear I;have ae:=Am (j) wb (by rw[←HN];omega) (HP.below HB);obtain⟨r1,dx⟩:=ak (P (j));rw[←dx,←HN]at ae;have HC:=Hd ae;clear ae;go_wp2_with fail;rw[←aP,←Ky];(try go_wp2_with fail);refine HC.mono ?_;rintro e w5 ⟨y,rfl,hx,J⟩;obtain⟨O,af⟩:=aj r1.at_;obtain⟨qW,ag⟩:=aj r1.err;rw[←af,←ag];have oO:=Hd af;have oP:=Hd ag;have Ko:Hid (∀f j,r1=.ok f j→y.Is (fun q=>w.heap.size<q∧q≠D∧q≠G) w5 f):=fun f j h=>(hx f j h).keep Kr (fun q _ h=>by have:=lH Dl;omega);clear hx af ag HC;replace X6:=kX J X6;replace Y:=kX J Y;replace Dl:=kX J Dl;replace HB:=kB HB J;clear J;obtain⟨w6,mV⟩:=aj (((((((((w5.setCell ⟨G,0,none⟩ (.int .i64 y.o)).setCell ⟨G,1,none⟩ (.int .i64 y.tn)).setCell ⟨G,2,none⟩ (.int .i64 y.tm)).setCell ⟨G,3,none⟩ (.string y.s)).setCell ⟨G,4,none⟩ (.slice y.Ae y.ne y.ce)).setCell ⟨G,5,none⟩ (.slice y.A y.n y.c)).setCell ⟨G,6,none⟩ (.int .i64 (O:Nat))).setCell ⟨G,7,none⟩ (.int .i64 qW)));have ba:w.heap.size≤G:=by omega
    have av:Hid (w6.heap[G]?=some (.cells #[.int .i64 y.o,.int .i64 y.tn,.int .i64 y.tm,.string y.s,.slice y.Ae y.ne y.ce,.slice y.A y.n y.c,.int .i64 (O:Nat),.int .i64 qW] 197 (0,0))):=by show _=_;rw[mV];exact gu Dl
    have ar:Hid (w6.heap[D]?=some (.cells #[.int .i64 x.o,.int .i64 x.tn,.int .i64 x.tm,.string x.s,.slice x.Ae x.ne x.ce,.slice x.A x.n x.c,.int .i64 (0:Nat),.int .i64 0] 197 (0,0))):=by show _=_;rw[mV];exact(pX (by omega)).trans Y
    have Y6:Hid (w6.heap[w.heap.size]?=some (.cells #[.int .i64 0,.int .i64 0,.int .i64 0,.string ⟨#[]⟩,.slice none 0 0,.slice none 0 0,.int .i64 0,.int .i64 0] 197 (0,0))):=by show _=_;rw[mV];exact(pX (by omega)).trans X6
    have YB:Hid (Below w.heap.size w w6):=by show Below _ _ _;rw[mV];exact oN HB ba
    have YY:Hid (∀f j,r1=.ok f j→y.Is (fun q=>w.heap.size<q∧q≠D∧q≠G) w6 f):=fun f j h=>by rw[mV];exact(Ko f j h).keep (pF Kr (by simp)) (fun _ _ h=>h)
    have ax:=Hd mV;clear mV Ko
    by_cases hy:qW=0
    ·obtain⟨g,hg⟩:=BG oO oP hy (fun j e h=>HZ _ j e (by rw[←dx];exact h));have ai:=HG (j) g O (by rw[←dx];exact hg);have NU:=ai.jl;have bf:=ai.ij;rw[←HN]at NU;have az:Hid (y.Is (fun q=>w.heap.size<q∧q≠D∧q≠G) w6 g):=YY g O hg;have dJ:Hid (mH l op sg P fuel g O=r):=by show _=_;rw[←bE,←dx,hg];rfl
     subst hy;clear ai hg YY;obtain⟨u0,u1,u2,u3,u4,u5,u6,u7,eG⟩:=q8 Dl;obtain⟨v0,v1,v2,v3,v4,v5,v6,v7,bW⟩:=q8 Y;have sG:=lH Dl;have aE:=lH Y;go_wp2_with fail;clear u0 eG u1 u2 u3 u4 u5 u6 u7 v0 bW v1 v2 v3 v4 v5 v6 v7;rw[←ax];obtain⟨w9,mE⟩:=aj (((((((((w6.setCell ⟨D,0,none⟩ (.int .i64 y.o)).setCell ⟨D,1,none⟩ (.int .i64 y.tn)).setCell ⟨D,2,none⟩ (.int .i64 y.tm)).setCell ⟨D,3,none⟩ (.string y.s)).setCell ⟨D,4,none⟩ (.slice y.Ae y.ne y.ce)).setCell ⟨D,5,none⟩ (.slice y.A y.n y.c)).setCell ⟨D,6,none⟩ (.int .i64 (O:Nat))).setCell ⟨D,7,none⟩ (.int .i64 0)))
     have Oj:Kg w D l i op sg P r w9 1 O fuel y:=by
      refine⟨?_,?_,?_,by omega,by rw[←HN];exact NU,by have:=He.out;omega,fun h=>absurd h (by decide),fun _=>⟨g,?_,dJ⟩⟩
      ·rw[mE];exact(pX (by omega)).trans Y6
      ·rw[mE];exact gu ar
      ·rw[mE];exact oN YB (by omega)
      ·rw[mE];exact az.keep (pF Kr (by simp)) (fun q _ h=>⟨h.1,h.2.1⟩)
     rw[←mE];clear mE;go_wp2_with fail
     go_roundw
     case rel=>exact⟨1,O,fuel,y,by go_num,by go_num,Oj⟩
     case measure=>simp[intOf];try omega
    ·have b1:(qW != 0)=true:=by simpa using hy
     have ay:r1=.bad O qW:=vL oO oP hy;have aw:Hid (F=uZ w (.bad O qW)):=by show _=_;rw[HF,←bE,←dx,ay];rfl
     clear hy ay;obtain⟨u0,u1,u2,u3,u4,u5,u6,u7,eG⟩:=q8 Dl;obtain⟨v0,v1,v2,v3,v4,v5,v6,v7,bW⟩:=q8 X6;have sG:=lH Dl;have aE:=lH X6;go_wp2_with fail;clear u0 eG u1 u2 u3 u4 u5 u6 u7 v0 bW v1 v2 v3 v4 v5 v6 v7;rw[←ax];refine bR (Bt (gu Y6)) rfl ?_;rw[aw];exact dw (r:=.bad O qW) (x:=y) (fun f j h=>nomatch h) YB
   ·obtain⟨f,bm,bl⟩:=HS.more hk;have kI:=Hd bl;have aa:=Hd bm;have bb:Hid (l.length≤fuel+j):=HS.fu;have Y:Hid (wr.heap[D]?=some (.cells #[.int .i64 x.o,.int .i64 x.tn,.int .i64 x.tm,.string x.s,.slice x.Ae x.ne x.ce,.slice x.A x.n x.c,.int .i64 (j:Nat),.int .i64 0] 197 (0,0))):=by have h:=HS.M8;rw[iN hk]at h;exact h
    clear HS bm bl;have b8:((k:Int)==0)=false:=by simpa using hk
    have cb:(0:Int)<(k:Int):=by omega
    have hI:=aZ A c j l 4 ⟨sg.toArray⟩ wr (HP.below HB) (by omega);rw[show ah l j 4 (bs ⟨sg.toArray⟩)=ah l j 4 sg from rfl,←HN]at hI
    by_cases ht:ah l j 4 sg=true
    ·rw[ht,qj]at hI;have HI:=Hd hI;have bZ:j<n:=by rw[HN];exact dL ht
     obtain⟨fu,bk⟩:∃fu,fuel=fu+1:=⟨fuel-1,by have:=bb.out;have:=HN.out;omega⟩;have bE:Hid (((P (j+1)).then fun g m=>mH l op sg P fu (fT op [f,g]) m)=r):=by show _=_;rw[←kI,bk,mH,iP ht]
     have He:Hid (l.length≤fu+(j+1)):=by show _≤_;have:=bb.out;omega
     clear hI ht bk kI bb;go_wp2_with fail;refine HI.mono ?_;rintro e w' ⟨rfl,aJ⟩;rw[aJ];clear aJ HI;obtain⟨G,pV⟩:=aj wr.heap.size;obtain⟨wb,ab⟩:=aj (wr.alloc (.cells #[.int .i64 0,.int .i64 0,.int .i64 0,.string ⟨#[]⟩,.slice none 0 0,.slice none 0 0,.int .i64 0,.int .i64 0] 197));have Dl:=jZ ab pV;have I:=dz ab;have bu:D<G:=by have:=lH Y;omega
     have Ky:=Hd pV;replace aa:Hid (x.Is (fun q=>w.heap.size<q∧q≠D∧q≠G) wr f):=aa.keep Kr (fun q hq h=>⟨h.1,h.2,by omega⟩);have aP:=Hd ab;clear pV ab;replace X6:=kX I X6;replace Y:=kX I Y;replace HB:=kB HB I;replace aa:Hid (x.Is (fun q=>w.heap.size<q∧q≠D∧q≠G) wb f):=aa.keep (Kb I) (fun _ _ h=>h);clear I;have ae:=Am (j+1) wb (by rw[←HN];omega) (HP.below HB);rw[show((j+1:Nat):Int)=(j:Int)+1 from by omega]at ae;obtain⟨r1,dx⟩:=ak (P (j+1));rw[←dx,←HN]at ae;have HC:=Hd ae;clear ae;go_wp2_with fail;rw[←aP,←Ky];(try go_wp2_with fail);refine HC.mono ?_;rintro e w5 ⟨y,rfl,hx,J⟩;obtain⟨O,af⟩:=aj r1.at_;obtain⟨qW,ag⟩:=aj r1.err;rw[←af,←ag];have oO:=Hd af;have oP:=Hd ag;have Ko:Hid (∀f j,r1=.ok f j→y.Is (fun q=>w.heap.size<q∧q≠D∧q≠G) w5 f):=fun f j h=>(hx f j h).keep Kr (fun q _ h=>by have:=lH Dl;omega);clear hx af ag HC;replace X6:=kX J X6;replace Y:=kX J Y;replace Dl:=kX J Dl;replace HB:=kB HB J;replace aa:Hid (x.Is (fun q=>w.heap.size<q∧q≠D∧q≠G) w5 f):=aa.keep (Kb J) (fun _ _ h=>h);clear J
     obtain⟨w6,mV⟩:=aj (((((((((w5.setCell ⟨G,0,none⟩ (.int .i64 y.o)).setCell ⟨G,1,none⟩ (.int .i64 y.tn)).setCell ⟨G,2,none⟩ (.int .i64 y.tm)).setCell ⟨G,3,none⟩ (.string y.s)).setCell ⟨G,4,none⟩ (.slice y.Ae y.ne y.ce)).setCell ⟨G,5,none⟩ (.slice y.A y.n y.c)).setCell ⟨G,6,none⟩ (.int .i64 (O:Nat))).setCell ⟨G,7,none⟩ (.int .i64 qW)));have ba:w.heap.size≤G:=by omega
     have av:Hid (w6.heap[G]?=some (.cells #[.int .i64 y.o,.int .i64 y.tn,.int .i64 y.tm,.string y.s,.slice y.Ae y.ne y.ce,.slice y.A y.n y.c,.int .i64 (O:Nat),.int .i64 qW] 197 (0,0))):=by show _=_;rw[mV];exact gu Dl
     have ar:Hid (w6.heap[D]?=some (.cells #[.int .i64 x.o,.int .i64 x.tn,.int .i64 x.tm,.string x.s,.slice x.Ae x.ne x.ce,.slice x.A x.n x.c,.int .i64 (j:Nat),.int .i64 0] 197 (0,0))):=by show _=_;rw[mV];exact(pX (by omega)).trans Y
     have Y6:Hid (w6.heap[w.heap.size]?=some (.cells #[.int .i64 0,.int .i64 0,.int .i64 0,.string ⟨#[]⟩,.slice none 0 0,.slice none 0 0,.int .i64 0,.int .i64 0] 197 (0,0))):=by show _=_;rw[mV];exact(pX (by omega)).trans X6
     have YB:Hid (Below w.heap.size w w6):=by show Below _ _ _;rw[mV];exact oN HB ba
     have YY:Hid (∀f j,r1=.ok f j→y.Is (fun q=>w.heap.size<q∧q≠D∧q≠G) w6 f):=fun f j h=>by rw[mV];exact(Ko f j h).keep (pF Kr (by simp)) (fun _ _ h=>h)
     have YI:Hid (x.Is (fun q=>w.heap.size<q∧q≠D∧q≠G) w6 f):=by show FV.Is _ _ _ _;rw[mV];exact aa.keep (pF Kr (by simp)) (fun _ _ h=>h)
     have ax:=Hd mV;clear mV Ko aa
     by_cases hy:qW=0
     ·obtain⟨g,hg⟩:=BG oO oP hy (fun j e h=>HZ _ j e (by rw[←dx];exact h));have ai:=HG (j+1) g O (by rw[←dx];exact hg);have NU:=ai.jl;have bf:=ai.ij;rw[←HN]at NU;have az:Hid (y.Is (fun q=>w.heap.size<q∧q≠D∧q≠G) w6 g):=YY g O hg;have dJ:Hid (mH l op sg P fu (fT op [f,g]) O=r):=by show _=_;rw[←bE,←dx,hg];rfl
      subst hy;clear ai hg YY;have Pw:=En op x y w6;unfold FV.val at Pw;rw[gy]at Pw;have qb:=Hd Pw;clear Pw;obtain⟨u0,u1,u2,u3,u4,u5,u6,u7,eG⟩:=q8 Dl;obtain⟨v0,v1,v2,v3,v4,v5,v6,v7,bW⟩:=q8 ar;obtain⟨a0,a1,a2,a3,a4,a5,a6,a7,bw⟩:=q8 av;have sG:=lH Dl;have aE:=lH ar;have b3:=lH av;have b5:=Hd Y;obtain⟨p0,p1,p2,p3,p4,p5,p6,p7,b2⟩:=q8 Y;have cc:=lH Y;go_wp2_with fail;rw[←ax];(try go_wp2_with fail);clear u0 eG u1 u2 u3 u4 u5 u6 u7 v0 bW v1 v2 v3 v4 v5 v6 v7;clear a0 bw a1 a2 a3 a4 a5 a6 a7 p0 b2 p1 p2 p3 p4 p5 p6 p7;refine qb.mono ?_;rintro e w7 ⟨g2,rfl,hrow,bL,iY⟩;have bj:=kX iY av;have aS:=kX iY ar;have Z6:=kX iY Y6;have ZB:=kB YB iY;have bJ:w.heap.size<g2∧g2≠D∧g2≠G:=by have:=lH av;omega
      have bn:Hid ((FV.mk op 0 0 ⟨#[]⟩ none 0 0 (some ⟨g2,0,none⟩) 2 2).Is (fun q=>w.heap.size<q∧q≠D∧q≠G) w7 (fT op [f,g])):=FV.FH (YI.keep (Kb iY) (fun _ _ h=>h)) (az.keep (Kb iY) (fun _ _ h=>h)) bJ hrow;clear hrow bL iY qb YI az av ar Y6 YB;obtain⟨u0,u1,u2,u3,u4,u5,u6,u7,eG⟩:=q8 bj;obtain⟨v0,v1,v2,v3,v4,v5,v6,v7,bW⟩:=q8 aS;have b6:=lH bj;have b7:=lH aS;go_wp2_with fail;clear u0 eG u1 u2 u3 u4 u5 u6 u7 v0 bW v1 v2 v3 v4 v5 v6 v7;obtain⟨w8,ao⟩:=aj (((((((w7.setCell ⟨G,0,none⟩ (.int .i64 op)).setCell ⟨G,1,none⟩ (.int .i64 0)).setCell ⟨G,2,none⟩ (.int .i64 0)).setCell ⟨G,3,none⟩ (.string ⟨#[]⟩)).setCell ⟨G,4,none⟩ (.slice none 0 0)).setCell ⟨G,5,none⟩ (.slice (some ⟨g2,0,none⟩) 2 2)));have kL:aR (fun q=>w.heap.size<q∧q≠D∧q≠G) w7 w8:=by rw[ao];exact mO Kr (by simp)
      have bz:w8.heap[w.heap.size]?=some (.cells #[.int .i64 0,.int .i64 0,.int .i64 0,.string ⟨#[]⟩,.slice none 0 0,.slice none 0 0,.int .i64 0,.int .i64 0] 197 (0,0)):=by rw[ao];exact(jH (by omega)).trans Z6
      have bv:w8.heap[D]?=some (.cells #[.int .i64 x.o,.int .i64 x.tn,.int .i64 x.tm,.string x.s,.slice x.Ae x.ne x.ce,.slice x.A x.n x.c,.int .i64 (j:Nat),.int .i64 0] 197 (0,0)):=by rw[ao];exact(jH (by omega)).trans aS
      have bC:Below w.heap.size w w8:=by rw[ao];exact(o9 (Ob (F:=fun _=>False) ZB) (by omega)).below (fun q h=>h.elim) (lr _)
      rw[gy]at ao;rw[←ao];clear ao;obtain⟨w9,mE⟩:=aj (((((((((w8.setCell ⟨D,0,none⟩ (.int .i64 op)).setCell ⟨D,1,none⟩ (.int .i64 0)).setCell ⟨D,2,none⟩ (.int .i64 0)).setCell ⟨D,3,none⟩ (.string ⟨#[]⟩)).setCell ⟨D,4,none⟩ (.slice none 0 0)).setCell ⟨D,5,none⟩ (.slice (some ⟨g2,0,none⟩) 2 2)).setCell ⟨D,6,none⟩ (.int .i64 (O:Nat))).setCell ⟨D,7,none⟩ (.int .i64 0)))
      have Oj:Kg w D l i op sg P r w9 (k+1) O fu (FV.mk op 0 0 ⟨#[]⟩ none 0 0 (some ⟨g2,0,none⟩) 2 2):=by
       refine⟨?_,?_,?_,by omega,by rw[←HN];exact NU,by have:=He.out;omega,fun h=>absurd h (by omega),fun _=>⟨fT op [f,g],?_,dJ⟩⟩
       ·rw[mE];exact(pX (by omega)).trans bz
       ·rw[mE];exact gu bv
       ·rw[mE];exact oN bC (by omega)
       ·rw[mE];exact bn.keep (pF kL (by simp)) (fun q _ h=>⟨h.1,h.2.1⟩)
      rw[gy]at mE;rw[←mE];clear mE;go_wp2_with fail
      go_roundw
      case rel=>exact⟨k+1,O,fu,_,by go_num,by go_num,Oj⟩
      case measure=>
       have e1:¬((k:Int)+1=0):=by omega
       have e3:=HN.out;simp[intOf,e1,hk];omega
     ·have b1:(qW != 0)=true:=by simpa using hy
      have ay:r1=.bad O qW:=vL oO oP hy;have aw:Hid (F=uZ w (.bad O qW)):=by show _=_;rw[HF,←bE,←dx,ay];rfl
      clear hy ay;obtain⟨u0,u1,u2,u3,u4,u5,u6,u7,eG⟩:=q8 Dl;obtain⟨v0,v1,v2,v3,v4,v5,v6,v7,bW⟩:=q8 X6;have sG:=lH Dl;have aE:=lH X6;go_wp2_with fail;clear u0 eG u1 u2 u3 u4 u5 u6 u7 v0 bW v1 v2 v3 v4 v5 v6 v7;rw[←ax];refine bR (Bt (gu Y6)) rfl ?_;rw[aw];exact dw (r:=.bad O qW) (x:=y) (fun f j h=>nomatch h) YB
    ·have bi:ah l j 4 sg=false:=by simpa using ht
     rw[bi,qj]at hI;have HI:=Hd hI;have aw:Hid (F=uZ w (.ok f j)):=by show _=_;rw[HF,←kI,AZ bi]
     clear hI ht bi;go_wp2_with fail;refine HI.mono ?_;rintro e w' ⟨rfl,aJ⟩;rw[aJ];clear aJ HI;obtain⟨u0,u1,u2,u3,u4,u5,u6,u7,eG⟩:=q8 Y;obtain⟨v0,v1,v2,v3,v4,v5,v6,v7,bW⟩:=q8 X6;have sG:=lH Y;have aE:=lH X6;go_wp2_with fail;clear u0 eG u1 u2 u3 u4 u5 u6 u7 v0 bW v1 v2 v3 v4 v5 v6 v7;refine bR (Bt (gu X6)) rfl ?_;rw[aw]
     exact dw (r:=.ok f j) (x:=x) (fun f' j' h=>by
      obtain⟨rfl,rfl⟩:=bH h
      exact aa.keep Kr (fun q _ h=>h.1)) HB
end Go.Proofs.YtkhoeoilamddaaaGreatDoor
