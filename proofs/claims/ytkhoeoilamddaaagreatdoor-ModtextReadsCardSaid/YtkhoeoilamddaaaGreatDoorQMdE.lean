/- Walks and plain words: MtA MtB PrsB PrsC MdE MtS. -/
import Derived.Test.YtkhoeoilamddaaaGreatDoorQFParQ
namespace Go.Proofs.YtkhoeoilamddaaaGreatDoor
open Go.RowKit
set_option linter.unusedVariables false
set_option maxRecDepth 100000
set_option maxHeartbeats 8000000
def kF(w:World)(R:Nat)(A:Option Addr)(n c i:Nat)(x:Int)(V:Nat→Value):Prop:=w.heap[R]?=some (.cells #[.slice A n c,.int .i64 (i:Nat),.int .i64 x,V 0,V 1,V 2,V 3,V 4,V 5,V 6,V 7] 53 (0,0))
section
variable {w w':World} {R n c i:Nat} {A:Option Addr} {x:Int} {V:Nat→Value}
theorem kF.c0(h:kF w R A n c i x V):w.cell? ⟨R,0,none⟩=some (.slice A n c):=pG h 0 rfl
theorem kF.c1(h:kF w R A n c i x V):w.cell? ⟨R,1,none⟩=some (.int .i64 (i:Nat)):=pG h 1 rfl
theorem kF.c2(h:kF w R A n c i x V):w.cell? ⟨R,2,none⟩=some (.int .i64 x):=pG h 2 rfl
theorem lt8{k:Nat}(D:k<8):k=0∨k=1∨k=2∨k=3∨k=4∨k=5∨k=6∨k=7:=by omega
theorem kF.cm(h:kF w R A n c i x V){k:Nat}(D:k<8):w.cell? ⟨R,3+k,none⟩=some (V k):=by
 rcases lt8 D with rfl|rfl|rfl|rfl|rfl|rfl|rfl|rfl<;>exact pG h _ rfl
theorem kF.lt(h:kF w R A n c i x V):R<w.heap.size:=lH h
theorem kF.frozen(h:kF w R A n c i x V)(o:Nat):w.frozen? ⟨R,o,none⟩=false:=frz h o
theorem kF.below{B:Nat}(h:kF w R A n c i x V)(hb:Below B w w')(D:R<B):kF w' R A n c i x V:=(hb.block R D).trans h
theorem kF.at_(h:kF w R A n c i x V)(j:Nat):kF (w.setCell ⟨R,1,none⟩ (.int .i64 (j:Nat))) R A n c j x V:=by
 unfold kF at h⊢;simp[World.setCell,Array.getElem?_modify,h]
theorem kF.wrong(h:kF w R A n c i x V)(y:Int):kF (w.setCell ⟨R,2,none⟩ (.int .i64 y)) R A n c i y V:=by
 unfold kF at h⊢;simp[World.setCell,Array.getElem?_modify,h]
theorem kF.put(h:kF w R A n c i x V){k:Nat}(D:k<8)(v:Value):kF (w.setCell ⟨R,3+k,none⟩ v) R A n c i x (fun j=>if j=k then v else V j):=by
 unfold kF at h⊢
 rcases lt8 D with rfl|rfl|rfl|rfl|rfl|rfl|rfl|rfl<;>simp[World.setCell,Array.getElem?_modify,h]
theorem kF.drewN(h:kF w R A n c i x V)(m:Nat):kF (w.drewN m) R A n c i x V:=h
end
def Ct(R:Nat)(A:Option Addr)(n c:Nat)(V:Nat→Value)(j:Nat)(x:Int)(w w':World):Prop:=kF w' R A n c j x V∧Only (fun q=>q=R) w w'∧w'.heap.size=w.heap.size
section
variable {w w' w'':World} {R n c i j m:Nat} {A:Option Addr} {x y:Int} {V:Nat→Value}
theorem ng(h:kF w R A n c i x V):Ct R A n c V i x w (w.drewN m):=⟨h,(Only.refl (F:=fun q=>q=R)).drewN m,rfl⟩
theorem Ct.drewN(h:Ct R A n c V j x w w')(m:Nat):Ct R A n c V j x w (w'.drewN m):=⟨h.1.drewN m,h.2.1.drewN m,h.2.2⟩
theorem Ct.at_(h:Ct R A n c V i x w w')(j:Nat):Ct R A n c V j x w (w'.setCell ⟨R,1,none⟩ (.int .i64 (j:Nat))):=⟨h.1.at_ j,h.2.1.bq rfl _,by simpa using h.2.2⟩
theorem Ct.next(h:Ct R A n c V i x w w'):Ct R A n c V (i+1) x w (w'.setCell ⟨R,1,none⟩ (.int .i64 ((i:Int)+1))):=by
 have h:=h.at_ (i+1);rw[show((i+1:Nat):Int)=(i:Int)+1 from by omega]at h;exact h
theorem Ct.wrong(h:Ct R A n c V i x w w')(y:Int):Ct R A n c V i y w (w'.setCell ⟨R,2,none⟩ (.int .i64 y)):=⟨h.1.wrong y,h.2.1.bq rfl _,by simpa using h.2.2⟩
theorem Ct.trans(h:Ct R A n c V i x w w')(h2:Ct R A n c V j y w' w''):Ct R A n c V j y w w'':=⟨h2.1,h.2.1.trans h2.2.1,h2.2.2.trans h.2.2⟩
end
def bO(l:List Tok)(k:Int)(s:Bs)(i:Nat)(x:Int):Nat×Int:=if x≠0 then(i,x)else if ah l i k s then(i+1,0)else(i,16)
def bX(l:List Tok)(i:Nat)(x:Int):ByteArray×Nat×Int:=if x≠0 then(⟨#[]⟩,i,x)else if jd l i 2 then(⟨(pJ l i).toArray⟩,i+1,0)else(⟨#[]⟩,i,16)
def BD(l:List Tok)(i:Nat):Nat:=if ah l i 4 [45]then i+1 else i
def I8(l:List Tok)(i:Nat)(x:Int):Int×Nat×Int:=if x≠0 then(0,i,x)else if jd l (BD l i) 1 then(if ah l i 4 [45]then-rC l (BD l i)else rC l (BD l i),BD l i+1,0)else(0,BD l i,16)
theorem afV(R:Nat)(A:Option Addr)(c i:Nat)(l:List Tok)(x:Int)(V:Nat→Value)(k:Int)(s:ByteArray)(w:World)(hR:kF w R A l.length c i x V)(hP:iI w R A c l)(hi:i≤1000000) :
 Calls Tryz.prog 120 #[.pointer (some ⟨R,0,none⟩),.int .i64 k,.string s] w fun e w'=>e=.returned (.bool (ah l i k (bs s)))∧∃n,w'=w.drewN n:=by
 obtain⟨n,HN⟩:=ak l.length;rw[←HN]at hR;have c0:=hR.c0;have c1:=hR.c1;have hlen:=hP.len;have O:=hP.cap;have aQ:=hP.bU;unfold maxLen at aQ;rw[←HN]at hlen O;have fC:=hR.lt;obtain⟨r,hr⟩:=aj (ah l i k (bs s));rw[←hr];unfold ah at hr;have HR:=Hd hr;have HP:=Hd hP;clear hr hP hR
 by_cases G:i<n
 ·obtain⟨t,ht⟩:∃t,l[i]?=some t:=⟨_,gG (by have:=HN.out;omega)⟩
  rcases HP.toks with h0|⟨b,off,rfl,hb,hc⟩
  ·rw[h0]at ht;simp at ht
  have x0:=hc i t ht 0 (by omega);have x2:=hc i t ht 2 (by omega);simp only[fZ,Nat.add_zero]at x0 x2;have J:Hid (r=(decide (t.kind=k)&&decide (t.text=bs s))):=by show _=_;rw[HR,ht]
  have ae:(0:Int)≤(i:Int):=by omega
  have Y:(i:Int)<(n:Int):=by omega
  clear ht hc G
  by_cases I:t.kind=k
  ·have aa:(t.kind==k)=true:=by simpa using I
   have D:Hid (r=decide (t.text=bs s)):=by show _=_;rw[J,decide_eq_true I];rfl
   have hs:((⟨t.text.toArray⟩:ByteArray).toList==s.toList)=decide (t.text=bs s):=by rw[vY];rfl
   obtain⟨T,hT⟩:∃T:ByteArray,T=⟨t.text.toArray⟩:=⟨_,rfl⟩;rw[←hT]at x2 hs;rw[←D]at hs;clear I hT;cases r
   all_goals
    go_in;go_wp2_with fail
    go_quiet (fail)
    go_wp2
    go_ret;exact⟨rfl,_,rfl⟩
  ·have aa:(t.kind==k)=false:=by simpa using I
   have D:Hid (r=false):=by show _=_;rw[J,dF I];rfl
   clear I;go_in;go_wp2_with fail
   go_quiet (fail)
   go_wp2
   go_ret;rw[D];exact⟨rfl,_,rfl⟩
 ·have D:Hid (r=false):=by show _=_;rw[HR,List.getElem?_eq_none (by have:=HN.out;omega)]
  have Y:¬(i:Int)<(n:Int):=by omega
  have hd:decide ((i:Int)<(n:Int))=false:=dF Y;have ab:decide (i<n)=false:=dF G;clear G;go_in;go_wp2_with fail
  go_quiet (fail)
  go_wp2
  go_ret;rw[D];exact⟨rfl,_,rfl⟩
theorem DT(R:Nat)(A:Option Addr)(c i:Nat)(l:List Tok)(x:Int)(V:Nat→Value)(k:Int)(s:ByteArray)(w:World)(hR:kF w R A l.length c i x V)(hP:iI w R A c l)(hi:i≤1000000) :
 Calls Tryz.prog 79 #[.pointer (some ⟨R,0,none⟩),.int .i64 k,.string s] w fun e w'=>e=.returned (.bool (ah l i k (bs s)))∧Ct R A l.length c V (if ah l i k (bs s)then i+1 else i) x w w':=by
 have D:=afV R A c i l x V k s w hR hP hi;have Y:=hR.lt;obtain⟨r,hr⟩:=aj (ah l i k (bs s));rw[←hr]at D⊢;obtain⟨F,J⟩:=ak (fun(e:Ending)(w':World)=>e=.returned (.bool r)∧Ct R A l.length c V (if r then i+1 else i) x w w');rw[←J];have I:=Hd D;have G:=Hd hR;clear D hR hP hr;cases r
 all_goals
  go_in;go_wp2_with fail;refine I.mono ?_;rintro e w' ⟨rfl,m,hw⟩;rw[hw];have c1:=(G.drewN m).c1;have f1:=(G.drewN m).frozen 1;have O:R<(w.drewN m).heap.size:=Y;clear hw;go_wp2_with fail;rw[J]
  first
   |exact⟨rfl,ng G⟩
   |exact⟨rfl,(ng G).next⟩
theorem qK(R:Nat)(A:Option Addr)(n c i:Nat)(x y:Int)(V:Nat→Value)(w:World)(hR:kF w R A n c i x V) :
 Calls Tryz.prog 45 #[.pointer (some ⟨R,0,none⟩),.int .i64 y] w fun e w'=>e=.returned (.tuple #[])∧Ct R A n c V i (if x=0 then y else x) w w':=by
 have c2:=hR.c2;have f2:=hR.frozen 2;have J:=hR.lt;obtain⟨F,D⟩:=ak (fun(e:Ending)(w':World)=>e=.returned (.tuple #[])∧Ct R A n c V i (if x=0 then y else x) w w');rw[←D];have I:=Hd hR;clear hR
 by_cases hx:x=0
 ·have G:=Hd hx;have hb:(x==0)=true:=by simpa using hx
  clear hx;go_in;go_wp2_with fail;refine bR (v:=.tuple #[]) (results_none rfl _ _ _) rfl ?_;rw[D,iP G.out];exact⟨rfl,(ng (m:=0) I).wrong y⟩
 ·have G:=Hd hx;have hb:(x==0)=false:=by simpa using hx
  clear hx;go_in;go_wp2_with fail;refine bR (v:=.tuple #[]) (results_none rfl _ _ _) rfl ?_;rw[D,iN G.out];exact⟨rfl,ng (m:=0) I⟩
theorem DU(R:Nat)(A:Option Addr)(c i:Nat)(l:List Tok)(x:Int)(V:Nat→Value)(k:Int)(s:ByteArray)(w:World)(hR:kF w R A l.length c i x V)(hP:iI w R A c l)(hi:x=0→i≤1000000) :
 Calls Tryz.prog 38 #[.pointer (some ⟨R,0,none⟩),.int .i64 k,.string s] w fun e w'=>e=.returned (.tuple #[])∧Ct R A l.length c V (bO l k (bs s) i x).1 (bO l k (bs s) i x).2 w w':=by
 have c2:=hR.c2;have fC:=hR.lt;obtain⟨F,D⟩:=ak (fun(e:Ending)(w':World)=>e=.returned (.tuple #[])∧Ct R A l.length c V (bO l k (bs s) i x).1 (bO l k (bs s) i x).2 w w');rw[←D];have HR:=Hd hR;unfold bO at D
 by_cases hx:x=0
 ·subst hx;have O:=DT R A c i l 0 V k s w hR hP (hi rfl);rw[iN (fun h=>h rfl)]at D;have vN:=Hd (fun(w':World)(h:kF w' R A l.length c i 0 V)=>qK R A l.length c i 0 16 V w' h);obtain⟨r,hr⟩:=aj (ah l i k (bs s));rw[←hr]at O D;have Y:=Hd O;clear O hr hR hP;cases r
  ·go_in;go_wp2_with fail;refine Y.mono ?_;rintro e w' ⟨rfl,G⟩;have I:=Hd G;clear G;go_wp2_with fail;refine(vN w' I.1).mono ?_;rintro e w2 ⟨rfl,G⟩;have J:=Hd (I.trans G);clear G;go_wp2_with fail;refine bR (v:=.tuple #[]) (results_none rfl _ _ _) rfl ?_;rw[D];exact⟨rfl,J⟩
  ·go_in;go_wp2_with fail;refine Y.mono ?_;rintro e w' ⟨rfl,G⟩;have I:=Hd G;clear G;go_wp2_with fail;refine bR (v:=.tuple #[]) (results_none rfl _ _ _) rfl ?_;rw[D];exact⟨rfl,I⟩
 ·have hb:(x==0)=false:=by simpa using hx
  rw[iP hx]at D;clear hx hR hP;go_in;go_wp2_with fail;refine bR (v:=.tuple #[]) (results_none rfl _ _ _) rfl ?_;rw[D];exact⟨rfl,ng (m:=0) HR⟩
theorem qL(R:Nat)(A:Option Addr)(n c i m:Nat)(V:Nat→Value)(w:World)(hR:kF w R A n c i 0 V)(hi:i≤1000000)(hm:m≤1000000) :
 Calls Tryz.prog 39 #[.pointer (some ⟨R,0,none⟩),.int .i64 (m:Nat)] w fun e w'=>e=.returned (.bool (decide (m<64)))∧Ct R A n c V (if m<64 then i+1 else i) (if m<64 then 0 else 18) w w':=by
 have c1:=hR.c1;have f1:=hR.frozen 1;have fC:=hR.lt;obtain⟨F,D⟩:=ak (fun(e:Ending)(w':World)=>e=.returned (.bool (decide (m<64)))∧Ct R A n c V (if m<64 then i+1 else i) (if m<64 then 0 else 18) w w');rw[←D];have O:=Hd hR
 by_cases hx:m<64
 ·rw[iP hx,iP hx,decide_eq_true hx]at D;have G:¬(64:Int)≤(m:Int):=by omega
  clear hx hR;go_in;go_wp2_with fail;rw[D];exact⟨rfl,(ng (m:=0) O).next⟩
 ·rw[iN hx,iN hx,dF hx]at D;have G:(64:Int)≤(m:Int):=by omega
  have Y:=Hd (qK R A n c i 0 18 V w hR);clear hx hR;go_in;go_wp2_with fail;refine Y.mono ?_;rintro e w' ⟨rfl,I⟩;have J:=Hd I;clear I;go_wp2_with fail;rw[D];exact⟨rfl,J⟩
theorem Ud{w:World}{R:Nat}{A:Option Addr}{c i:Nat}{l:List Tok}{k:Int}(hP:iI w R A c l)(h:jd l i k=true):∃t b off,l[i]?=some t∧A=some ⟨b,off,none⟩∧b≠R∧b<w.heap.size∧i<l.length∧(pJ l i=t.text)∧rC l i=t.n∧-1000000≤t.n∧t.n≤1000000 ∧
 w.cell? ⟨b,off+i*4,none⟩=some (.int .i64 k)∧w.cell? ⟨b,off+i*4+1,none⟩=some (.int .i64 t.n)∧w.cell? ⟨b,off+i*4+2,none⟩=some (.string ⟨t.text.toArray⟩):=by
 obtain⟨t,ht,J⟩:=wh h
 rcases hP.toks with h0|⟨b,off,rfl,hb,hc⟩
 ·rw[h0]at ht;simp at ht
 have D:=hc i t ht 0 (by omega);have G:=hc i t ht 1 (by omega);have I:=hc i t ht 2 (by omega);simp only[fZ,Nat.add_zero]at D G I;rw[J]at D;exact⟨t,b,off,ht,rfl,hP.apart _ rfl,hb,(gE.1 ht).1,by unfold pJ;rw[ht],by unfold rC;rw[ht],(hP.rng t (mG ht)).1,(hP.rng t (mG ht)).2,D,G,I⟩
theorem Ue{w:World}{R:Nat}{A:Option Addr}{c i:Nat}{l:List Tok}{k:Int}(hP:iI w R A c l)(h:jd l i k=false):l.length≤i∨∃(t:Tok)(b off:Nat),A=some ⟨b,off,none⟩∧b≠R∧b<w.heap.size∧i<l.length∧t.kind≠k∧w.cell? ⟨b,off+i*4,none⟩=some (.int .i64 t.kind):=by
 rcases DJ h with h|⟨t,ht,G⟩
 ·exact .inl h
 rcases hP.toks with h0|⟨b,off,rfl,hb,hc⟩
 ·rw[h0]at ht;simp at ht
 have D:=hc i t ht 0 (by omega);simp only[fZ,Nat.add_zero]at D;exact .inr ⟨t,b,off,rfl,hP.apart _ rfl,hb,(gE.1 ht).1,G,D⟩
theorem I9(R:Nat)(A:Option Addr)(c i:Nat)(l:List Tok)(x:Int)(V:Nat→Value)(w:World)(hR:kF w R A l.length c i x V)(hP:iI w R A c l)(hi:i≤l.length) :
 Calls Tryz.prog 43 #[.pointer (some ⟨R,0,none⟩)] w fun e w'=>e=.returned (.string (bX l i x).1)∧Ct R A l.length c V (bX l i x).2.1 (bX l i x).2.2 w w':=by
 obtain⟨F,D⟩:=ak (fun(e:Ending)(w':World)=>e=.returned (.string (bX l i x).1)∧Ct R A l.length c V (bX l i x).2.1 (bX l i x).2.2 w w');rw[←D];have Y:=Hd hR;unfold bX at D;have c2:=hR.c2;have fC:=hR.lt
 by_cases hx:x=0
 ·subst hx;rw[iN (fun h=>h rfl)]at D;have c0:=hR.c0;have c1:=hR.c1;have f1:=hR.frozen 1;have hlen:=hP.len;have J:=hP.cap;have aQ:=hP.bU;unfold maxLen at aQ;have aw:(0:Int)≤(i:Int):=by omega
  by_cases G:jd l i 2=true
  ·rw[iP G]at D;obtain⟨t,b,off,-,rfl,aa,hb,I,af,-,-,-,x0,-,x2⟩:=Ud hP G;rw[af]at D;obtain⟨n,hn⟩:=aj l.length;rw[←hn]at Y D c0 hlen J I hi;have ao:(i:Int)<(n:Int):=by omega
   have L8:decide ((n:Int)≤(i:Int))=false:=dF (by omega);have Cj:decide (n≤i)=false:=dF (by omega);have av:IntKind.i64.wrap ((i:Int)+1-1)=(i:Int):=by rw[show(i:Int)+1-1=(i:Int) by omega];exact IntWalk.i64_in _ (by omega)
   have ae:IntKind.i64.wrap (i:Int)=(i:Int):=IntWalk.i64_in _ (by omega);have Tg:R≠b:=fun h=>aa h.symm;clear hR hP G hn I af;go_in;go_wp2_with fail
   go_quiet (fail)
   go_wp2_with fail
   go_quiet (fail)
   go_wp2_with fail;rw[D];exact⟨rfl,((ng Y).next).drewN _⟩
  ·have sF:jd l i 2=false:=by simpa using G
   rw[iN G]at D;have vN:=Hd (fun m=>qK R A l.length c i 0 16 V (w.drewN m) (hR.drewN m));obtain⟨n,hn⟩:=aj l.length
   have ag:∃u:Bool,(u=true→n≤i)∧(u=false→∃(t:Tok)(b off:Nat),A=some ⟨b,off,none⟩∧b≠R∧b<w.heap.size∧i<n∧t.kind≠2∧w.cell? ⟨b,off+i*4,none⟩=some (.int .i64 t.kind)):=by
    rcases Ue hP sF with h|h
    ·exact⟨true,fun _=>by rw[hn];exact h,fun h=>nomatch h⟩
    ·exact⟨false,fun h=>(nomatch h),fun _=>by rw[hn];exact h⟩
   rw[←hn]at Y D vN c0 hlen J hi;clear hR hP G sF hn;obtain⟨u,hu1,O⟩:=ag;cases u
   ·obtain⟨t,b,off,rfl,aa,hb,I,G,x0⟩:=O rfl;have ao:(i:Int)<(n:Int):=by omega
    have L8:decide ((n:Int)≤(i:Int))=false:=dF (by omega);have Cj:decide (n≤i)=false:=dF (by omega);have ax:(t.kind != 2)=true:=by simpa using G
    have ar:(t.kind==2)=false:=by simpa using G
    clear hu1 O G I;go_in;go_wp2_with fail
    go_quiet (fail)
    go_wp2_with fail;refine(vN _).mono ?_;rintro e w' ⟨rfl,hg⟩;have HG:=Hd ((ng Y).trans hg);clear hg;go_wp2_with fail;rw[D];exact⟨rfl,HG⟩
   ·have ab:=hu1 rfl;have L8:decide ((n:Int)≤(i:Int))=true:=decide_eq_true (by omega);have Cj:decide (n≤i)=true:=decide_eq_true ab;have ai:(n:Int)≤(i:Int):=by omega
    clear hu1 O ab;go_in;go_wp2_with fail
    go_quiet (fail)
    go_wp2_with fail;refine(vN _).mono ?_;rintro e w' ⟨rfl,hg⟩;have HG:=Hd ((ng Y).trans hg);clear hg;go_wp2_with fail;rw[D];exact⟨rfl,HG⟩
 ·have hb:(x != 0)=true:=by simpa using hx
  rw[iP hx]at D;clear hx hR hP;go_in;go_wp2_with fail;rw[D];exact⟨rfl,ng (m:=0) Y⟩
theorem Uf(R:Nat)(A:Option Addr)(c i:Nat)(l:List Tok)(x:Int)(V:Nat→Value)(w:World)(hR:kF w R A l.length c i x V)(hP:iI w R A c l)(hi:i≤l.length) :
 Calls Tryz.prog 80 #[.pointer (some ⟨R,0,none⟩)] w fun e w'=>e=.returned (.int .i64 (I8 l i x).1)∧Ct R A l.length c V (I8 l i x).2.1 (I8 l i x).2.2 w w':=by
 obtain⟨F,G⟩:=ak (fun(e:Ending)(w':World)=>e=.returned (.int .i64 (I8 l i x).1)∧Ct R A l.length c V (I8 l i x).2.1 (I8 l i x).2.2 w w');rw[←G];have HR:=Hd hR;unfold I8 at G;have c2:=hR.c2;have fC:=hR.lt
 by_cases hx:x=0
 ·subst hx;rw[iN (fun h=>h rfl)]at G;have hlen:=hP.len;have Y:=hP.cap;have aQ:=hP.bU;unfold maxLen at aQ;have lM:=DT R A c i l 0 V 4 ⟨#[45]⟩ w hR hP (by omega);have ab:BD l i≤l.length+1:=by unfold BD;split<;>omega
  obtain⟨j,hj⟩:=aj (BD l i);obtain⟨r,hr⟩:=aj (ah l i 4 [45]);rw[show bs ⟨#[45]⟩=[45]from rfl,show(if ah l i 4 [45]=true then i+1 else i)=j by rw[hj];rfl,←hr]at lM;rw[←hj,←hr]at G;rw[←hj]at ab;have Uc:=Hd lM;have HP:=Hd hP;have aF:(0:Int)≤(j:Int):=by omega
  clear lM hj hr hR hP
  by_cases J:jd l j 1=true
  ·rw[iP J]at G;obtain⟨t,b,off,-,hA,I,hb,O,-,ag,az,aE,x0,x1,-⟩:=Ud HP J;rw[ag]at G;obtain⟨tn,ai⟩:=aj t.n;rw[←ai]at G az aE x1;subst hA;obtain⟨n,hn⟩:=aj l.length;rw[←hn]at HR G Uc hlen Y O hi;have aw:(j:Int)<(n:Int):=by omega
   have L8:decide ((n:Int)≤(j:Int))=false:=dF (by omega);have Cj:decide (n≤j)=false:=dF (by omega);have ay:IntKind.i64.wrap (- tn)=- tn:=IntWalk.i64_in _ (by omega);have Tg:R≠b:=fun h=>I h.symm;have X0:=Hd x0;have X1:=Hd x1;clear J hn O ag ai x0 x1 ab;cases r
   all_goals
    go_in;go_wp2_with fail;refine Uc.mono ?_;rintro e w1 ⟨rfl,D⟩;have c0:=D.1.c0;have c1:=D.1.c1;have f1:=D.1.frozen 1;have sQ:=D.1.lt;have hb1:b<w1.heap.size:=by rw[D.2.2];exact hb
    have x0:w1.cell? ⟨b,off+j*4,none⟩=some (.int .i64 1):=by rw[D.2.1.cell hb I];exact X0
    have x1:w1.cell? ⟨b,off+j*4+1,none⟩=some (.int .i64 tn):=by rw[D.2.1.cell hb I];exact X1
    have HG:=Hd D;clear D c2 fC;go_wp2_with fail
    go_quiet (fail)
    go_wp2_with fail
    go_quiet (fail)
    go_wp2_with fail;rw[G];exact⟨rfl,((HG.drewN _).next)⟩
  ·have sF:jd l j 1=false:=by simpa using J
   rw[iN J]at G;have vN:=Hd (fun w' m (h:kF w' R A l.length c j 0 V)=>qK R A l.length c j 0 16 V (w'.drewN m) (h.drewN m));obtain⟨n,hn⟩:=aj l.length
   have ar:∃u:Bool,(u=true→n≤j)∧(u=false→∃(t:Tok)(b off:Nat),A=some ⟨b,off,none⟩∧b≠R∧b<w.heap.size∧j<n∧t.kind≠1∧w.cell? ⟨b,off+j*4,none⟩=some (.int .i64 t.kind)):=by
    rcases Ue HP sF with h|h
    ·exact⟨true,fun _=>by rw[hn];exact h,fun h=>nomatch h⟩
    ·exact⟨false,fun h=>(nomatch h),fun _=>by rw[hn];exact h⟩
   rw[←hn]at HR G vN Uc hlen Y hi ab;clear J sF hn HP;obtain⟨u,hu1,ae⟩:=ar;cases u
   ·obtain⟨t,b,off,rfl,I,hb,O,J,ao⟩:=ae rfl;have aw:(j:Int)<(n:Int):=by omega
    have L8:decide ((n:Int)≤(j:Int))=false:=dF (by omega);have Cj:decide (n≤j)=false:=dF (by omega);have aJ:(t.kind != 1)=true:=by simpa using J
    have ax:(t.kind==1)=false:=by simpa using J
    have X0:=Hd ao;clear hu1 ae J O ao;cases r
    all_goals
     go_in;go_wp2_with fail;refine Uc.mono ?_;rintro e w1 ⟨rfl,D⟩;have c0:=D.1.c0;have c1:=D.1.c1;have sQ:=D.1.lt;have hb1:b<w1.heap.size:=by rw[D.2.2];exact hb
     have x0:w1.cell? ⟨b,off+j*4,none⟩=some (.int .i64 t.kind):=by rw[D.2.1.cell hb I];exact X0
     have HG:=Hd D;clear D c2 fC;go_wp2_with fail
     go_quiet (fail)
     go_wp2_with fail;refine(vN w1 _ HG.1).mono ?_;rintro e w2 ⟨rfl,D⟩;have aa:=Hd ((HG.drewN _).trans D);clear D;go_wp2_with fail;rw[G];exact⟨rfl,aa⟩
   ·have af:=hu1 rfl;have L8:decide ((n:Int)≤(j:Int))=true:=decide_eq_true (by omega);have Cj:decide (n≤j)=true:=decide_eq_true af;have av:(n:Int)≤(j:Int):=by omega
    clear hu1 ae af;cases r
    all_goals
     go_in;go_wp2_with fail;refine Uc.mono ?_;rintro e w1 ⟨rfl,D⟩;have c0:=D.1.c0;have c1:=D.1.c1;have sQ:=D.1.lt;have HG:=Hd D;clear D c2 fC;go_wp2_with fail
     go_quiet (fail)
     go_wp2_with fail;refine(vN w1 _ HG.1).mono ?_;rintro e w2 ⟨rfl,D⟩;have aa:=Hd ((HG.drewN _).trans D);clear D;go_wp2_with fail;rw[G];exact⟨rfl,aa⟩
 ·have hb:(x != 0)=true:=by simpa using hx
  rw[iP hx]at G;clear hx hR hP;go_in;go_wp2_with fail;rw[G];exact⟨rfl,ng (m:=0) HR⟩
def uF(w:World)(b:Nat)(l:List Int):Prop:=∀j z,l[j]?=some z→w.cell? ⟨b,j,none⟩=some (.int .i64 z)
theorem uF.drewN{w:World}{b:Nat}{l:List Int}(h:uF w b l)(m:Nat):uF (w.drewN m) b l:=h
theorem tY(w:World)(l:List Int):uF (w.alloc (.cells (l.map fun z=>Value.int .i64 z).toArray 3)) w.heap.size l:=fun j z D=>by
 rw[cR _ w.heap.size j _ _ (0,0) (eu w _)];simp[D]
theorem Xa(l:List Tok)(i:Nat):∀(ops:List Int)(k:Nat)(op:Int),ops[k]?=some op→au l i (ops.drop k)=if (if op=17 then ah l i 3 [109,111,100]else ah l i 4 (iy op))=true then op else au l i (ops.drop (k+1)):=by
 intro ops k op h;obtain⟨G,D⟩:=gE.1 h;rw[List.drop_eq_getElem_cons G,D,au]
theorem zR(R:Nat)(A:Option Addr)(c i d:Nat)(l:List Tok)(bo co:Nat)(ops:List Int)(w:World)(hR:iZ w R A l.length c i d)(hP:iI w R A c l)(hi:i≤1000000)(ho:uF w bo ops)(ai:ops.length≤20)(hb:bo<w.heap.size) :
 Calls Tryz.prog 146 #[.pointer (some ⟨R,0,none⟩),.slice (some ⟨bo,0,none⟩) ops.length co] w fun e w'=>e=.returned (.int .i64 (au l i ops))∧∃n,w'=w.drewN n:=by
 obtain⟨n,HN⟩:=ak ops.length;obtain⟨r,HR⟩:=ak (au l i ops);obtain⟨F,hF⟩:∃F:Ending→World→Prop,F=fun e w'=>e=.returned (.int .i64 r)∧∃n,w'=w.drewN n:=⟨_,rfl⟩;rw[←HN]at ai⊢;rw[←HR,←hF];have dQ:=Hd hR;have ae:=Hd hP;have fC:=hR.lt;have HF:=Hd hF;have HO:=Hd ho;clear hF hR hP ho;go_in;go_wp2_with fail
 go_loopw [6,9] (fun _ si wr=>∃k m:Nat,k≤n∧si=.int .i64 k∧wr=w.drewN m∧au l i (ops.drop k)=r) (fun _ i _=>n-(intOf i).toNat)
 case atStart=>exact⟨0,0,zl _,rfl,rfl,HR.symm⟩
 case round=>
  obtain⟨k,m,hk,rfl,G,hw⟩:=hrel;have O:iZ wr R A l.length c i d:=by rw[G];exact dQ.drewN m
  have J:iI wr R A c l:=by rw[G];exact ae.only (Only.refl.drewN m)
  have Y:uF wr bo ops:=by rw[G];exact HO.drewN m
  have av:bo<wr.heap.size:=by rw[G];exact hb
  have bA:Hid (∀q,∃n,wr.drewN q=w.drewN n):=fun q=>⟨m+q,by rw[G,World.drewN_drewN]⟩;have HW:=Hd hw;clear hw G
  by_cases ag:k<n
  ·obtain⟨op,aa⟩:∃op,ops[k]?=some op:=⟨_,gG (by have:=HN.out;omega)⟩;have x0:=Y k op aa;have HD:=Hd (Xa l i ops k op aa);have aw:(0:Int)≤(k:Int):=by omega
   have af:(k:Int)<(n:Int):=by omega
   clear aa
   by_cases Aj:op=17
   ·subst Aj;obtain⟨bw,HB⟩:=ak (ah l i 3 [109,111,100])
    have I:Hid (∀q,Calls Tryz.prog 175 #[.pointer (some ⟨R,0,none⟩),.int .i64 3,.string ⟨#[109,111,100]⟩] (wr.drewN q) fun e w'=>e=.returned (.bool bw)∧∃n,w'=(wr.drewN q).drewN n):=fun q=>by
     have h:=DI R A c i d l 3 ⟨#[109,111,100]⟩ (wr.drewN q) (O.drewN q) (J.only (Only.refl.drewN q)) hi;rw[show ah l i 3 (bs ⟨#[109,111,100]⟩)=bw by rw[HB];rfl]at h;exact h
    clear O J Y
    cases bw with
    |true=>
     have D:Hid (r=17):=by show _=_;rw[←HW,HD,iP rfl,←HB,iP rfl]
     go_wp2_with fail
     go_quiet ((go_at_call 175;exact Calls.quiet_of (I _)))
     go_wp2_with fail;rw[HF,D];exact⟨rfl,bA _⟩
    |false=>
     have D:Hid (au l i (ops.drop (k+1))=r):=by show _=_;rw[←HW,HD,iP rfl,←HB,iN (by decide)]
     go_wp2_with fail
     go_quiet ((go_at_call 175;exact Calls.quiet_of (I _)))
     go_wp2_with fail
     go_roundw
     case rel=>exact⟨k+1,(bA _).choose,by omega,by go_num,(bA _).choose_spec,D⟩
     case measure=>simp[intOf];omega
   ·obtain⟨bw,HB⟩:=ak (ah l i 4 (iy op));obtain⟨S,hS⟩:∃S:ByteArray,S=⟨(iy op).toArray⟩:=⟨_,rfl⟩
    have I:Hid (∀q,Calls Tryz.prog 175 #[.pointer (some ⟨R,0,none⟩),.int .i64 4,.string S] (wr.drewN q) fun e w'=>e=.returned (.bool bw)∧∃n,w'=(wr.drewN q).drewN n):=fun q=>by
     have h:=DI R A c i d l 4 S (wr.drewN q) (O.drewN q) (J.only (Only.refl.drewN q)) hi;rw[show ah l i 4 (bs S)=bw by rw[HB,hS];rfl]at h;exact h
    have qj:Hid (∀q,Calls Tryz.prog 162 #[.int .i64 op] (wr.drewN q) fun e w'=>e=.returned (.string S)∧w'=wr.drewN q):=fun q=>by
     rw[hS];exact(sS op (wr.drewN q)).mono fun _ _ h=>⟨h.1,h.2.symm⟩
    have ab:=Hd Aj;have ao:(op != 17)=true:=by simpa using Aj
    have ar:(op==17)=false:=by simpa using Aj
    clear O J Y Aj hS
    cases bw with
    |true=>
     have D:Hid (r=op):=by show _=_;rw[←HW,HD,iN ab.out,←HB,iP rfl]
     go_wp2_with fail
     go_quiet (first|(go_at_call 175;exact Calls.quiet_of (I _))|(go_at_call 162;exact Calls.quiet_of_same (qj _))|fail)
     go_wp2_with fail;rw[HF,D];exact⟨rfl,bA _⟩
    |false=>
     have D:Hid (au l i (ops.drop (k+1))=r):=by show _=_;rw[←HW,HD,iN ab.out,←HB,iN (by decide)]
     go_wp2_with fail
     go_quiet (first|(go_at_call 175;exact Calls.quiet_of (I _))|(go_at_call 162;exact Calls.quiet_of_same (qj _))|fail)
     go_wp2_with fail
     go_roundw
     case rel=>exact⟨k+1,(bA _).choose,by omega,by go_num,(bA _).choose_spec,D⟩
     case measure=>simp[intOf];omega
  ·have af:¬(k:Int)<(n:Int):=by omega
   have D:Hid (r=0):=by
    show _=_;rw[←HW,List.drop_eq_nil_of_le (by have:=HN.out;omega)]
    rfl
   clear O J Y ag;go_wp2_with fail;rw[HF,D];exact⟨rfl,by have:=bA 0;exact this⟩
structure aR(S:Nat→Prop)(w w':World):Prop where
 size:w.heap.size≤w'.heap.size
 block:∀q,S q→q<w.heap.size→w'.heap[q]?=w.heap[q]?
theorem aR.cell{S:Nat→Prop}{w w':World}(h:aR S w w'){b o:Nat}(hs:S b)(hb:b<w.heap.size):w'.cell? ⟨b,o,none⟩=w.cell? ⟨b,o,none⟩:=World.cell?_of_block (a:=⟨b,o,none⟩) (h.block b hs hb)
theorem aR.refl{S:Nat→Prop}{w:World}:aR S w w:=⟨lr _,fun _ _ _=>rfl⟩
theorem aR.trans{S:Nat→Prop}{w w' D:World}(h:aR S w w')(k:aR S w' D):aR S w D:=⟨Nat.le_trans h.size k.size,fun q hs hq=>(k.block q hs (lL hq h.size)).trans (h.block q hs hq)⟩
theorem aR.cO{S:Nat→Prop}{R:Nat}{w w':World}(h:Only (fun q=>q=R) w w')(hR:¬S R):aR S w w':=⟨h.size,fun q hs hq=>h.block q hq (fun e=>hR (e ▸ hs))⟩
theorem aR.of_below{S:Nat→Prop}{w w':World}(h:Below w.heap.size w w'):aR S w w':=⟨h.size,fun q _ hq=>h.block q hq⟩
theorem aR.set{S:Nat→Prop}{w w':World}(h:aR S w w'){b o:Nat}(hb:¬S b)(v:Value):aR S w (w'.setCell ⟨b,o,none⟩ v):=⟨by simpa using h.size,fun q hs hq=>(iw w' ⟨b,o,none⟩ q v (fun e=>hb (by subst e;exact hs))).trans (h.block q hs hq)⟩
theorem aR.alloc{S:Nat→Prop}{w w':World}(h:aR S w w')(o:Obj):aR S w (w'.alloc o):=⟨by simp;exact Nat.le_succ_of_le h.size,fun q hs hq=>(((Br w'.heap.size w').alloc (lr _) o).block q (lL hq h.size)).trans (h.block q hs hq)⟩
mutual
def uG(S:Nat→Prop)(w:World)(g o:Nat):Tm→Prop
 |.mk op n s l=>w.cell? ⟨g,o,none⟩=some (.int .i64 op)∧w.cell? ⟨g,o+1,none⟩=some (.int .i64 n)∧w.cell? ⟨g,o+2,none⟩=some (.string s)∧s.size≤maxLen ∧
  ∃A c,w.cell? ⟨g,o+3,none⟩=some (.slice A l.length c)∧l.length≤c∧c≤maxLen∧(l=[]∨∃g' o',A=some ⟨g',o',none⟩∧S g'∧g'<w.heap.size∧kZ S w g' o' l)
def kZ(S:Nat→Prop)(w:World)(g o:Nat):List Tm→Prop
 |[]=>True
 |t::r=>uG S w g o t∧kZ S w g (o+4) r
end
def ai8(S:Nat→Prop)(w:World)(A:Option Addr)(l:List Tm):Prop:=l=[]∨∃g' o',A=some ⟨g',o',none⟩∧S g'∧g'<w.heap.size∧kZ S w g' o' l
mutual
theorem uG.afX{S:Nat→Prop}{w:World}:∀{t:Tm}{g o:Nat},uG S w g o t→gB w g o t
 |.mk op n s l,g,o,h=>by
  rw[uG]at h;rw[gB];obtain⟨h0,h1,h2,hs,A,c,h3,G,h5,D⟩:=h;refine⟨h0,h1,h2,hs,A,c,h3,G,h5,?_⟩
  rcases D with D|⟨g',J,hA,_,I,D⟩
  ·exact .inl D
  ·exact .inr ⟨g',J,hA,I,kZ.Mr D⟩
theorem kZ.Mr{S:Nat→Prop}{w:World}:∀{l:List Tm}{g o:Nat},kZ S w g o l→mX w g o l
 |[],g,o,h=>by rw[mX];trivial
 |t::r,g,o,h=>by
  rw[kZ]at h;rw[mX];exact⟨uG.afX h.1,kZ.Mr h.2⟩
end
mutual
theorem uG.keep{S S':Nat→Prop}{w w':World}(G:aR S w w')(hS:∀q,q<w.heap.size→S q→S' q):∀{t:Tm}{g o:Nat},S g→g<w.heap.size→uG S w g o t→uG S' w' g o t
 |.mk op n s l,g,o,hg,hl,h=>by
  rw[uG]at h⊢;obtain⟨h0,h1,h2,hs,A,c,h3,J,h5,I⟩:=h;refine⟨by rw[G.cell hg hl];exact h0,by rw[G.cell hg hl];exact h1,by rw[G.cell hg hl];exact h2,hs,A,c,by rw[G.cell hg hl];exact h3,J,h5,?_⟩
  rcases I with I|⟨g',O,hA,hn,D,I⟩
  ·exact .inl I
  ·exact .inr ⟨g',O,hA,hS g' D hn,lL D G.size,kZ.keep G hS hn D I⟩
theorem kZ.keep{S S':Nat→Prop}{w w':World}(D:aR S w w')(hS:∀q,q<w.heap.size→S q→S' q):∀{l:List Tm}{g o:Nat},S g→g<w.heap.size→kZ S w g o l→kZ S' w' g o l
 |[],g,o,_,_,h=>by rw[kZ];trivial
 |t::r,g,o,hg,hl,h=>by
  rw[kZ]at h⊢;exact⟨uG.keep D hS hg hl h.1,kZ.keep D hS hg hl h.2⟩
end
structure aD(S:Nat→Prop)(w:World)(A:Option Addr)(c:Nat)(t:Tm):Prop where
 cap:t.kids.length≤c
 bU:c≤maxLen
 name:t.name.size≤maxLen
 kids:ai8 S w A t.kids
theorem aD.toV{S:Nat→Prop}{c:Nat}{w:World}{A:Option Addr}{t:Tm}(h:aD S w A c t):zx w A c t:=⟨h.cap,h.bU,h.name,by
 rcases h.kids with h|⟨g',G,hA,_,D,h⟩
 ·exact .inl h
 ·exact .inr ⟨g',G,hA,D,kZ.Mr h⟩⟩
theorem aD.keep{S S':Nat→Prop}{c:Nat}{w w':World}{A:Option Addr}{t:Tm}(h:aD S w A c t)(G:aR S w w')(hS:∀q,q<w.heap.size→S q→S' q):aD S' w' A c t:=⟨h.cap,h.bU,h.name,by
 rcases h.kids with h|⟨g',I,hA,hs,D,h⟩
 ·exact .inl h
 ·exact .inr ⟨g',I,hA,hS g' D hs,lL D G.size,kZ.keep G hS hs D h⟩⟩
theorem uG.mk{S:Nat→Prop}{w:World}{g o:Nat}{t:Tm}{A:Option Addr}{c:Nat}(h0:w.cell? ⟨g,o,none⟩=some (.int .i64 t.op))(h1:w.cell? ⟨g,o+1,none⟩=some (.int .i64 t.num))(h2:w.cell? ⟨g,o+2,none⟩=some (.string t.name))(h3:w.cell? ⟨g,o+3,none⟩=some (.slice A t.kids.length c))(h:aD S w A c t):uG S w g o t:=by
 cases t with
 |mk op n s l=>
  rw[uG];exact⟨h0,h1,h2,h.name,A,c,h3,h.cap,h.bU,h.kids⟩
theorem aD.leaf{S:Nat→Prop}{w:World}{op n:Int}{s:ByteArray}(hs:s.size≤maxLen):aD S w none 0 (.mk op n s []):=⟨lr _,by unfold maxLen;show 0≤_;omega,hs,.inl rfl⟩
def PQ(R:Nat)(A:Option Addr)(c d:Nat)(l:List Tok)(i:Nat)(r:Rs Tm)(w:World)(e:Ending)(w':World):Prop:=match r with
 |.ok t j=>(∃A' c',e=.returned (t.val A' c')∧aD (fun q=>w.heap.size≤q) w' A' c' t)∧i<j∧j≤l.length∧iZ w' R A l.length c j d∧Only (fun q=>q=R) w w'
 |.bad j x=>e=.panicked (thrown j x)∧Only (fun q=>q=R) w w'
def KR(R:Nat)(A:Option Addr)(c d:Nat)(l:List Tok)(K:FuncId)(x:Value)(Inv:World→Prop)(P:jN):Prop:=
 ∀(i:Nat)(w:World),i≤l.length→iZ w R A l.length c i d→iI w R A c l→Inv w→Calls Tryz.prog K #[x] w (PQ R A c d l i (P i) w)
def abI(m:Bool)(K:FuncId)(x:Value):Value:=if m then .func (.func K) #[x] #[]else .func (.func K) #[] #[x]
theorem yU.only{R n c d j:Nat}{A:Option Addr}{w w':World}(h:yU R A n c d j w w'):Only (fun q=>q=R) w w':=h.2.1
theorem kr{w:World}{b:Nat}{D G I J:Value}{T:TypeId}(h:w.heap[b]?=some (.cells #[D,G,I,J] T (0,0))) :
 (w.cell? ⟨b,0,none⟩=some D∧w.frozen? ⟨b,0,none⟩=false)∧(w.cell? ⟨b,1,none⟩=some G∧w.frozen? ⟨b,1,none⟩=false)∧(w.cell? ⟨b,2,none⟩=some I∧w.frozen? ⟨b,2,none⟩=false)∧w.cell? ⟨b,3,none⟩=some J∧w.frozen? ⟨b,3,none⟩=false:=
 ⟨⟨by rw[cR w b 0 _ _ (0,0) h];rfl,by simp[World.frozen?,h]⟩,⟨by rw[cR w b 1 _ _ (0,0) h];rfl,by simp[World.frozen?,h]⟩,⟨by rw[cR w b 2 _ _ (0,0) h];rfl,by simp[World.frozen?,h]⟩,by rw[cR w b 3 _ _ (0,0) h];rfl,by simp[World.frozen?,h]⟩
theorem sZ{W:World}{o:Obj}{b:Nat}{x:Obj}(h:W.heap[b]?=some x):(W.alloc o).heap[b]?=some x:=(((Br W.heap.size W).alloc (lr _) o).block b (lH h)).trans h
theorem ads{R:Nat}{w W:World}{o:Obj}{v0 v1 v2 v3:Value}(h:Only (fun q=>q=R) w W):Only (fun q=>q=R) w (((((W.setCell ⟨w.heap.size,0,none⟩ v0).setCell ⟨w.heap.size,1,none⟩ v1).setCell ⟨w.heap.size,2,none⟩ v2).setCell ⟨w.heap.size,3,none⟩ v3).alloc o):=by
 refine⟨h.os,h.tape,h.output,by simp;exact Nat.le_succ_of_le h.size,fun q hq hf=>?_⟩;have hne:q≠w.heap.size:=by omega
 rw[((Br _ _).alloc (lr _) o).block q (by simp;exact lL hq h.size),iw _ ⟨w.heap.size,3,none⟩ q _ hne,iw _ ⟨w.heap.size,2,none⟩ q _ hne,iw _ ⟨w.heap.size,1,none⟩ q _ hne,iw _ ⟨w.heap.size,0,none⟩ q _ hne];exact h.block q hq hf
theorem ni{W:World}{b:Nat}{D G I J v0 v1 v2 v3:Value}{T:TypeId}(h:W.heap[b]?=some (.cells #[D,G,I,J] T (0,0))) :
 ((((W.setCell ⟨b,0,none⟩ v0).setCell ⟨b,1,none⟩ v1).setCell ⟨b,2,none⟩ v2).setCell ⟨b,3,none⟩ v3).heap[b]?=some (.cells #[v0,v1,v2,v3] T (0,0)):=by
 simp[World.setCell,Array.getElem?_modify,h]
theorem Cu(R:Nat)(A:Option Addr)(c d:Nat)(l:List Tok)(K:FuncId)(x:Value)(m:Bool)(Inv:World→Prop)(P:jN)(i:Nat)(w:World)(aF:∀args W,(callFunc K args).run Tryz.prog W=.ok (.enter K args) W)
 (hInv:∀w w',Inv w→Only (fun q=>q=R) w w'→Inv w') (hF:d<256→KR R A c (d+1) l K x Inv P) (hd:d≤256) (hi:i<l.length) (hR:iZ w R A l.length c i d) (hP:iI w R A c l) (hw:Inv w) :
 Calls Tryz.prog 174 #[.pointer (some ⟨R,0,none⟩),abI m K x] w (PQ R A c d l i (if d=256 then .bad i 17 else P (i+1)) w):=by
 have hlen:=hP.len;obtain⟨w1,hw1⟩:=aj (w.alloc (.cells #[.int .i64 0,.int .i64 0,.string ⟨#[]⟩,.slice none 0 0] 64));have hb1:=dz hw1;have aQ:w1.heap.size=w.heap.size+1:=by rw[hw1];simp
 have O:=hR.below hb1 hR.lt;have fC:=hR.lt;have d1:=hR.c1;have d2:=hR.c2;have c0:=O.c0;have c1:=O.c1;have c2:=O.c2;have f1:=O.frozen 1;have f2:=O.frozen 2;have e1:=hR.frozen 1;have e2:=hR.frozen 2;obtain⟨F,HF⟩:=ak (PQ R A c d l i (if d=256 then .bad i 17 else P (i+1)) w);rw[←HF];have ao:=Hd hw1;have ab:=Hd hb1;have af:=Hd O;have ai:=Hd hR;have Am:=Hd hF;have av:=Hd hInv;have HP:=Hd hP;have Oe:=Hd hw;clear hw1 hb1 hR O hF hInv hP hw
 by_cases gq:d=256
 ·have bE:Hid (F=PQ R A c d l i (.bad i 17) w):=by show _=_;rw[HF,iP gq]
  have ay:(256:Int)≤(d:Int):=by omega
  have vN:=Hd (zF R A l.length c i d 17 w1 af);clear gq;go_in;go_wp2_with fail;rw[←ao];go_wp2_with fail;refine vN.mono ?_;rintro e w' ⟨rfl,hw'⟩;rw[←hw'];refine(show _∧_ from⟨rfl,?_⟩);rw[bE];exact⟨rfl,Ob ab⟩
 ·have bE:Hid (F=PQ R A c d l i (P (i+1)) w):=by show _=_;rw[HF,iN gq]
  have ay:¬(256:Int)≤(d:Int):=by omega
  have az:d<256:=by omega
  obtain⟨w3,G⟩:=aj (((w.setCell ⟨R,1,none⟩ (.int .i64 ((i:Int)+1))).setCell ⟨R,2,none⟩ (.int .i64 ((d:Int)+1))).alloc (.cells #[.int .i64 0,.int .i64 0,.string ⟨#[]⟩,.slice none 0 0] 64))
  have I:Only (fun q=>q=R) w w3:=by
   rw[G];exact(((Only.refl (F:=fun q=>q=R)).bq rfl _).bq rfl _).jV ((Br _ _).alloc (lr _) _) (by simp)
  have VU:iZ w3 R A l.length c (i+1) (d+1):=by
   have h:=((ai.at_ (i+1)).deep (d+1));rw[G];refine iZ.below (B:=w.heap.size) (w:=(w.setCell ⟨R,1,none⟩ (.int .i64 ((i:Int)+1))).setCell ⟨R,2,none⟩ (.int .i64 ((d:Int)+1))) ?_ ((Br _ _).alloc (by simp) _) fC;rw[show((i+1:Nat):Int)=(i:Int)+1 from by omega,show((d+1:Nat):Int)=(d:Int)+1 from by omega]at h;exact h
  have D:=Am az (i+1) w3 (by omega) VU (HP.only I) (av w w3 Oe I);obtain⟨r,hr⟩:=aj (P (i+1));rw[←hr]at D bE
  have aa:w3.heap[w.heap.size]?=some (.cells #[.int .i64 0,.int .i64 0,.string ⟨#[]⟩,.slice none 0 0] 64 (0,0)):=by
   rw[G];have h:=eu ((w.setCell ⟨R,1,none⟩ (.int .i64 ((i:Int)+1))).setCell ⟨R,2,none⟩ (.int .i64 ((d:Int)+1))) (.cells #[.int .i64 0,.int .i64 0,.string ⟨#[]⟩,.slice none 0 0] 64)
   simpa using h
  have aS:w3.heap.size=w.heap.size+1:=by rw[G];simp
  have HC:=Hd D;have Ai:=Hd I;have ae:=Hd aa;have ar:=Hd G;clear D hr I VU aa G gq;cases m
  all_goals
   unfold abI;simp only[if_true,Bool.false_eq_true,if_false];go_in;go_wp2_with fail;rw[←ar];refine HC.mono ?_;intro e w4 hq
   cases r with
   |bad j x=>
    obtain⟨rfl,iC⟩:=hq;refine(show _∧_ from⟨rfl,?_⟩);rw[bE];exact⟨rfl,Ai.trans iC⟩
   |ok t j=>
    obtain⟨⟨A',c',rfl,hV⟩,aP,aE,vD,iC⟩:=hq;have HV:=Hd hV;have ag:=Hd vD;have uX:=Hd (Ai.trans iC);have Og:w.heap.size≠R:=by omega
    have BS:=Hd ((iC.block w.heap.size (by omega) Og).trans ae);have a6:=iC.size;have g2:=vD.c2;have k2:=vD.frozen 2;have aJ:=vD.lt;have rc:w4.heap.size>w.heap.size:=by omega
    obtain⟨n2,kU⟩:=ak t.kids.length;unfold Tm.val;rw[←kU];obtain⟨v0,v1,v2,v3,zq⟩:=q4 BS;clear hV vD iC;go_wp2_with fail;obtain⟨Y,J⟩:=aj (w4.setCell ⟨R,2,none⟩ (.int .i64 (d:Nat)))
    have aw:Y.heap[w.heap.size]?=some (.cells #[.int .i64 0,.int .i64 0,.string ⟨#[]⟩,.slice none 0 0] 64 (0,0)):=by
     rw[J];exact(iw w4 ⟨R,2,none⟩ w.heap.size _ Og).trans BS
    have a7:Y.heap.size=w4.heap.size:=by rw[J];simp
    have ax:iZ Y R A l.length c j d:=by rw[J];exact ag.deep d
    have Ug:Only (fun q=>q=R) w Y:=by rw[J];exact uX.bq rfl _
    have Uh:aD (fun q=>w3.heap.size≤q) Y A' c' t:=by
     rw[J];exact HV.keep (aR.refl.set (by omega) _) (fun _ _ h=>h)
    rw[←J];clear J;have hres:=sZ (o:=.cells #[.int .i64 t.op,.int .i64 t.num,.string t.name,.slice A' n2 c'] 64) (ni (v0:=.int .i64 t.op) (v1:=.int .i64 t.num) (v2:=.string t.name) (v3:=.slice A' n2 c') aw);refine bR (Gg hres) rfl ?_;rw[bE];refine⟨⟨A',c',by unfold Tm.val;rw[←kU],?_⟩,by omega,aE,?_,?_⟩
    ·exact Uh.keep (((((aR.refl.set (by omega) _).set (by omega) _).set (by omega) _).set (by omega) _).alloc _) (fun q _ h=>by omega)
    ·have QY:R≠w.heap.size:=fun h=>Og h.symm;refine iZ.below (B:=Y.heap.size) ?_ ((Br _ _).alloc (by simp) _) (by omega);unfold iZ;rw[iw _ ⟨w.heap.size,3,none⟩ R _ QY,iw _ ⟨w.heap.size,2,none⟩ R _ QY,iw _ ⟨w.heap.size,1,none⟩ R _ QY,iw _ ⟨w.heap.size,0,none⟩ R _ QY];exact ax
    ·exact ads Ug
abbrev Kb:=@aR.of_below
abbrev Kr:=@aR.refl
abbrev aK:=@sZ
inductive El where
 |var (x:Vr)
 |defs (x:Df)
 |init (x:Tm)
 |bF (x:Tm)
 |next (x:Df)
 |trans (x:Tm)
 |fair (x:Tm)
 |spec (x:Sp)
def El.put(m:Md):El→Md
 |.var x=>{m with vars:=m.vars++[x]}
 |.defs x=>{m with defs:=m.defs++[x]}
 |.init x=>{m with init:=m.init++[x]}
 |.bF x=>{m with bF:=m.bF++[x]}
 |.next x=>{m with next:=m.next++[x]}
 |.trans x=>{m with trans:=m.trans++[x]}
 |.fair x=>{m with fair:=m.fair++[x]}
 |.spec x=>{m with specs:=m.specs++[x]}
def El.cnt(m:Md):El→Nat
 |.var _=>m.vars.length
 |.defs _=>m.defs.length
 |.init _=>m.init.length
 |.bF _=>m.bF.length
 |.next _=>m.next.length
 |.trans _=>m.trans.length
 |.fair _=>m.fair.length
 |.spec _=>m.specs.length
def Rs.map{α β:Type}(f:α→β)(r:Rs α):Rs β:=r.then fun x j=>.ok (f x) j
def elP(l:List Tok)(i:Nat):Rs El:=
 if ah l i 3 kV then(OD l (i+1)).map .var
 else if ah l i 3 kW then(Mi l (i+1)).map .defs
 else if ah l i 3 iA then(OE l (i+1)).map .init
 else if ah l i 3 eZ then(OE l (i+1)).map .bF
 else if ah l i 3 fE then(Mi l (i+1)).map .next
 else if ah l i 3 fP then(OE l (i+1)).map .trans
 else if ah l i 3 jL then(OE l (i+1)).map .fair
 else if ah l i 3 pI then(GL l (i+1)).map .spec
 else .bad i 16
theorem map_ok{α β:Type}{f:α→β}{r:Rs α}{y:β}{j:Nat}(h:r.map f=.ok y j):∃x,r=.ok x j∧y=f x:=by
 cases r with
 |bad i e=>cases h
 |ok x k=>cases h;exact⟨x,rfl,rfl⟩
theorem uE{α:Type}{n i j:Nat}{p:Nat→Rs α}{f:α→El}{g:α→Md}{e:El}(h:(p (i+1)).map f=.ok e j):∃x,p (i+1)=.ok x j∧e=f x∧((nP n p i).then fun x j=>(.ok (g x) j:Rs Md))=if 64≤n then .bad i 18 else .ok (g x) j:=by
 obtain⟨x,h1,h2⟩:=map_ok h;refine⟨x,h1,h2,?_⟩;unfold nP
 by_cases hn:64≤n
 ·rw[iP hn,iP hn];rfl
 ·rw[iN hn,iN hn,h1];rfl
theorem adr{l:List Tok}{m:Md}{i j:Nat}{e:El}(h:elP l i=.ok e j):rH l m i=if 64≤e.cnt m then .bad i 18 else .ok (e.put m) j:=by
 unfold elP at h;unfold rH
 by_cases c1:ah l i 3 kV=true
 ·rw[iP c1]at h⊢;obtain⟨x,-,rfl,hm⟩:=uE (n:=m.vars.length) (g:=fun x=>{m with vars:=m.vars++[x]}) h;exact hm
 rw[iN c1]at h⊢
 by_cases c2:ah l i 3 kW=true
 ·rw[iP c2]at h⊢;obtain⟨x,-,rfl,hm⟩:=uE (n:=m.defs.length) (g:=fun x=>{m with defs:=m.defs++[x]}) h;exact hm
 rw[iN c2]at h⊢
 by_cases c3:ah l i 3 iA=true
 ·rw[iP c3]at h⊢;obtain⟨x,-,rfl,hm⟩:=uE (n:=m.init.length) (g:=fun x=>{m with init:=m.init++[x]}) h;exact hm
 rw[iN c3]at h⊢
 by_cases c4:ah l i 3 eZ=true
 ·rw[iP c4]at h⊢;obtain⟨x,-,rfl,hm⟩:=uE (n:=m.bF.length) (g:=fun x=>{m with bF:=m.bF++[x]}) h;exact hm
 rw[iN c4]at h⊢
 by_cases c5:ah l i 3 fE=true
 ·rw[iP c5]at h⊢;obtain⟨x,-,rfl,hm⟩:=uE (n:=m.next.length) (g:=fun x=>{m with next:=m.next++[x]}) h;exact hm
 rw[iN c5]at h⊢
 by_cases D:ah l i 3 fP=true
 ·rw[iP D]at h⊢;obtain⟨x,-,rfl,hm⟩:=uE (n:=m.trans.length) (g:=fun x=>{m with trans:=m.trans++[x]}) h;exact hm
 rw[iN D]at h⊢
 by_cases G:ah l i 3 jL=true
 ·rw[iP G]at h⊢;obtain⟨x,-,rfl,hm⟩:=uE (n:=m.fair.length) (g:=fun x=>{m with fair:=m.fair++[x]}) h;exact hm
 rw[iN G]at h⊢
 by_cases I:ah l i 3 pI=true
 ·rw[iP I]at h⊢;obtain⟨x,-,rfl,hm⟩:=uE (n:=m.specs.length) (g:=fun x=>{m with specs:=m.specs++[x]}) h;exact hm
 rw[iN I]at h;cases h
set_option maxHeartbeats 16000000
theorem afW{W:World}{b:Nat}{vs:Array Value}{T:TypeId}{z:Nat×Nat}(h:W.heap[b]?=some (.cells vs T z))(o:Nat)(v:Value):(W.setCell ⟨b,o,none⟩ v).heap[b]?=some (.cells (vs.setIfInBounds o v) T z):=by
 simp[World.setCell,Array.getElem?_modify,h]
structure Od(w:World)(R:Nat)(A:Option Addr)(n c i:Nat)(x:Int)(V:Nat→Value)(bx:Nat)(OB:Obj)(W:World):Prop where
 bN:kF W R A n c i x V
 only:Only (fun q=>q=R) w W
 box:W.heap[bx]?=some OB
section
variable {w W W':World} {R n c i b bx j:Nat} {A:Option Addr} {x y:Int} {V:Nat→Value} {OB:Obj}
theorem Od.below(h:Od w R A n c i x V bx OB W)(hb:Below W.heap.size W W'):Od w R A n c i x V bx OB W':=⟨h.bN.below hb h.bN.lt,h.only.trans (Ob hb),(hb.block bx (lH h.box)).trans h.box⟩
theorem Od.aside(h:Od w R A n c i x V bx OB W)(D:Only (fun q=>q=b) W W')(hw:w.heap.size≤b)(hb:b≠bx)(hR:b≠R):Od w R A n c i x V bx OB W':=⟨(D.block R h.bN.lt (fun e=>hR e.symm)).trans h.bN,⟨D.os.trans h.only.os,D.tape.trans h.only.tape,D.output.trans h.only.output,Nat.le_trans h.only.size D.size,fun q hq hf=>(D.block q (lL hq h.only.size) (by omega)).trans (h.only.block q hq hf)⟩,(D.block bx (lH h.box) (fun e=>hb e.symm)).trans h.box⟩
theorem Od.go(h:Od w R A n c i x V bx OB W)(D:kF W' R A n c j y V∧Only (fun q=>q=R) W W')(hR:bx≠R):Od w R A n c j y V bx OB W':=⟨D.1,h.only.trans D.2,(D.2.block bx (lH h.box) hR).trans h.box⟩
end
theorem Ct.two{R n c j:Nat}{A:Option Addr}{x:Int}{V:Nat→Value}{w w':World}(h:Ct R A n c V j x w w'):kF w' R A n c j x V∧Only (fun q=>q=R) w w':=⟨h.1,h.2.1⟩
def Er(R:Nat)(A:Option Addr)(n c:Nat)(V:Nat→Value)(j:Nat)(x:Int)(w w':World):Prop:=kF w' R A n c j x V∧Only (fun q=>q=R) w w'
theorem AU{W:World}{b:Nat}(v0 v1 v2 v3:Value):Only (fun q=>q=b) W ((((W.setCell ⟨b,0,none⟩ v0).setCell ⟨b,1,none⟩ v1).setCell ⟨b,2,none⟩ v2).setCell ⟨b,3,none⟩ v3):=((((((((Only.refl (F:=fun q=>q=b)).bq (show b=b from rfl) _)).bq (show b=b from rfl) _)).bq (show b=b from rfl) _)).bq (show b=b from rfl) _)
theorem GU{W:World}{b:Nat}(v0 v1 v2 v3 v4 v5:Value):Only (fun q=>q=b) W ((((((W.setCell ⟨b,0,none⟩ v0).setCell ⟨b,1,none⟩ v1).setCell ⟨b,2,none⟩ v2).setCell ⟨b,3,none⟩ v3).setCell ⟨b,4,none⟩ v4).setCell ⟨b,5,none⟩ v5):=((((((((((((Only.refl (F:=fun q=>q=b)).bq (show b=b from rfl) _)).bq (show b=b from rfl) _)).bq (show b=b from rfl) _)).bq (show b=b from rfl) _)).bq (show b=b from rfl) _)).bq (show b=b from rfl) _)
theorem GV{w W W':World}{R n c i bx:Nat}{A:Option Addr}{x:Int}{V:Nat→Value}{OB:Obj}(h:Od w R A n c i x V bx OB W)(D:Only (fun q=>q=bx) W W')(hw:w.heap.size≤bx)(hR:bx≠R):Er R A n c V i x w W':=⟨(D.block R h.bN.lt (fun e=>hR e.symm)).trans h.bN,⟨D.os.trans h.only.os,D.tape.trans h.only.tape,D.output.trans h.only.output,Nat.le_trans h.only.size D.size,fun q hq hf=>(D.block q (lL hq h.only.size) (by omega)).trans (h.only.block q hq hf)⟩⟩
theorem s4A{W:World}{b:Nat}{v0 v1 v2 v3 D G I J:Value}{T:TypeId}(h:W.heap[b]?=some (.cells #[D,G,I,J] T (0,0))):((((W.setCell ⟨b,0,none⟩ v0).setCell ⟨b,1,none⟩ v1).setCell ⟨b,2,none⟩ v2).setCell ⟨b,3,none⟩ v3).heap[b]?=some (.cells #[v0,v1,v2,v3] T (0,0)):=by
 simp[World.setCell,Array.getElem?_modify,h]
theorem s5A{W:World}{b:Nat}{v0 v1 v2 v3 v4 D G I J O:Value}{T:TypeId}(h:W.heap[b]?=some (.cells #[D,G,I,J,O] T (0,0))):(((((W.setCell ⟨b,0,none⟩ v0).setCell ⟨b,1,none⟩ v1).setCell ⟨b,2,none⟩ v2).setCell ⟨b,3,none⟩ v3).setCell ⟨b,4,none⟩ v4).heap[b]?=some (.cells #[v0,v1,v2,v3,v4] T (0,0)):=by
 simp[World.setCell,Array.getElem?_modify,h]
theorem aaQ{W:World}{b:Nat}(v0 v1 v2 v3 v4:Value):Only (fun q=>q=b) W (((((W.setCell ⟨b,0,none⟩ v0).setCell ⟨b,1,none⟩ v1).setCell ⟨b,2,none⟩ v2).setCell ⟨b,3,none⟩ v3).setCell ⟨b,4,none⟩ v4):=((((((((((Only.refl (F:=fun q=>q=b)).bq (show b=b from rfl) _)).bq (show b=b from rfl) _)).bq (show b=b from rfl) _)).bq (show b=b from rfl) _)).bq (show b=b from rfl) _)
theorem q5{w:World}{b:Nat}{T:TypeId}{D G I J O:Value}(h:w.heap[b]?=some (.cells #[D,G,I,J,O] T (0,0))):w.cell? ⟨b,0,none⟩=some D∧w.cell? ⟨b,1,none⟩=some G∧w.cell? ⟨b,2,none⟩=some I∧w.cell? ⟨b,3,none⟩=some J∧w.cell? ⟨b,4,none⟩=some O∧∀j,w.frozen? ⟨b,j,none⟩=false:=
 ⟨pG h 0 rfl,pG h 1 rfl,pG h 2 rfl,pG h 3 rfl,pG h 4 rfl,frz h⟩
theorem q7{w:World}{b:Nat}{T:TypeId}{D G I J O Y u6:Value}(h:w.heap[b]?=some (.cells #[D,G,I,J,O,Y,u6] T (0,0))):w.cell? ⟨b,0,none⟩=some D∧w.cell? ⟨b,1,none⟩=some G∧w.cell? ⟨b,2,none⟩=some I∧w.cell? ⟨b,3,none⟩=some J∧w.cell? ⟨b,4,none⟩=some O∧w.cell? ⟨b,5,none⟩=some Y∧w.cell? ⟨b,6,none⟩=some u6∧∀j,w.frozen? ⟨b,j,none⟩=false:=
 ⟨pG h 0 rfl,pG h 1 rfl,pG h 2 rfl,pG h 3 rfl,pG h 4 rfl,pG h 5 rfl,pG h 6 rfl,frz h⟩
end Go.Proofs.YtkhoeoilamddaaaGreatDoor
