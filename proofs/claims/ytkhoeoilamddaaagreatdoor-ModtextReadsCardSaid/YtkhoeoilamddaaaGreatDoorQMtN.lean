/- Walks and plain words: MtN MdX MtO. -/
import Derived.Test.YtkhoeoilamddaaaGreatDoorQMtH
import Derived.Test.YtkhoeoilamddaaaGreatDoorQMtI
import Derived.Test.YtkhoeoilamddaaaGreatDoorQMtJ
import Derived.Deep.LoopGhost
namespace Go.Proofs.YtkhoeoilamddaaaGreatDoor
open Go.RowKit
set_option linter.unusedVariables false
def akG(R:Nat)(A:Option Addr)(c:Nat)(l:List Tok)(B:Nat)(w:World)(r:Rs Md)(e:Ending)(w':World):Prop:=
 e=.returned (.tuple #[])∧∃V' X' G',(match r with
  |.ok m j=>kF w' R A l.length c j 0 V'∧V8 G' m
  |.bad j x=>kF w' R A l.length c j x V'∧x≠0)∧BJ w' B R V' X' G'∧Below B w w'∧∀k,k<8→(G' k).length≤64
theorem ab7(R:Nat)(A:Option Addr)(c i B:Nat)(l:List Tok)(V:Nat→Value)(X:Nat→List (List Value))(G:Nat→List El)(m:Md)(w:World)(hi:i<l.length)(hR:kF w R A l.length c i 0 V)(hP:iI w R A c l)(I:BJ w B R V X G)(aa:V8 G m)(J:B≤R)(hA:∀a,A=some a→a.block<B)(D:∀k,k<8→(G k).length≤64) :
 Calls Tryz.prog 15 #[.pointer (some ⟨R,0,none⟩)] w (akG R A c l B w (m_ l m i)):=by
 by_cases h:∃k,k<8∧ah l i 3 (ji k)=true
 ·obtain⟨k,O,hw⟩:=h;have hG:=D k O
  have hd:Calls Tryz.prog 15 #[.pointer (some ⟨R,0,none⟩)] w (qg R A c l B w (if (G k).length<64 then bO l 4 [59] (kC l k (i+1)).2.1 (kC l k (i+1)).2.2 else(i,18)) (if (G k).length<64 then upd G k (G k++[(kC l k (i+1)).1])else G)):=by
   have kL:k=0∨(k=1∨k=4)∨(k=2∨k=3∨k=5∨k=6)∨k=7:=by omega
   rcases kL with rfl|h|h|rfl
   ·exact YJ R A c i B l V X G w hw hR hP I J hA hG
   ·exact aoL k h R A c i B l V X G w hw hR hP I J hA hG
   ·exact YL k h R A c i B l V X G w hw hR hP I J hA hG
   ·exact YN R A c i B l V X G w hw hR hP I J hA hG
  have hr:=aef O hw aa;refine hd.mono ?_;rintro e w' ⟨rfl,Y,X',h1,h2,h3⟩;refine⟨rfl,Y,X',_,?_,h2,h3,fun j hj=>?_⟩
  ·cases hp:m_ l m i with
   |bad j x=>
    rw[hp]at hr;obtain⟨r1,r2⟩:=hr;rw[r1]at h1;exact⟨h1,r2⟩
   |ok m' j=>
    rw[hp]at hr;obtain⟨r1,r2⟩:=hr;rw[r1]at h1;exact⟨h1,r2⟩
  ·split
   ·unfold upd
    split
    ·rename_i hjk
     rw[List.length_append,List.length_singleton];omega
    ·exact D j hj
   ·exact D j hj
 ·have hw:∀k,k<8→ah l i 3 (ji k)=false:=fun k O=>by
   cases he:ah l i 3 (ji k)
   ·rfl
   ·exact absurd ⟨k,O,he⟩ h
  rw[ab6 hw];refine(YP R A c i B l V X G w hi hw hR hP I J hA).mono ?_;rintro e w' ⟨rfl,Y,X',h1,h2,h3⟩;exact⟨rfl,Y,X',G,⟨h1,by decide⟩,h2,h3,D⟩
theorem kR{α β:Type}{r:Rs α}{f:α→Nat→Rs β}{y:β}{j:Nat}(h:r.then f=.ok y j):∃x k,r=.ok x k∧f x k=.ok y j:=by
 cases r with
 |bad i e=>cases h
 |ok x k=>exact⟨x,k,rfl,h⟩
theorem lN{α:Type}{x y:α}{i j:Nat}(h:(Rs.ok x i:Rs α)=.ok y j):x=y∧i=j:=by cases h;exact⟨rfl,rfl⟩
theorem yI{α:Type}{n i j:Nat}{p:Nat→Rs α}{f:α→El}{g:α→Md}{m':Md}(h:((nP n p i).then fun x j=>(.ok (g x) j:Rs Md))=.ok m' j):∃e,(p (i+1)).map f=.ok e j:=by
 obtain⟨x,k,h1,h2⟩:=kR h;obtain⟨rfl,rfl⟩:=lN h2;unfold nP at h1
 by_cases hn:64≤n
 ·rw[iP hn]at h1;cases h1
 ·rw[iN hn]at h1;exact⟨f x,by rw[h1];rfl⟩
theorem agl{l:List Tok}{m m':Md}{i j:Nat}(h:rH l m i=.ok m' j):∃e,elP l i=.ok e j:=by
 unfold rH at h;unfold elP
 by_cases c1:ah l i 3 kV=true
 ·rw[iP c1]at h⊢;exact yI h
 rw[iN c1]at h⊢
 by_cases c2:ah l i 3 kW=true
 ·rw[iP c2]at h⊢;exact yI h
 rw[iN c2]at h⊢
 by_cases c3:ah l i 3 iA=true
 ·rw[iP c3]at h⊢;exact yI h
 rw[iN c3]at h⊢
 by_cases c4:ah l i 3 eZ=true
 ·rw[iP c4]at h⊢;exact yI h
 rw[iN c4]at h⊢
 by_cases c5:ah l i 3 fE=true
 ·rw[iP c5]at h⊢;exact yI h
 rw[iN c5]at h⊢
 by_cases D:ah l i 3 fP=true
 ·rw[iP D]at h⊢;exact yI h
 rw[iN D]at h⊢
 by_cases G:ah l i 3 jL=true
 ·rw[iP G]at h⊢;exact yI h
 rw[iN G]at h⊢
 by_cases I:ah l i 3 pI=true
 ·rw[iP I]at h⊢;exact yI h
 rw[iN I]at h;cases h
theorem aa1{l:List Tok}{i j:Nat}{k:Int}{s:Bs}{u:Unit}(h:qJ l i k s=.ok u j):j=i+1:=by
 unfold qJ at h
 split at h
 ·exact(lN h).2.symm
 ·cases h
theorem MZ{l:List Tok}{i j:Nat}{s:Bs}{u:ByteArray}(h:sV l s i=.ok u j):i≤j:=by
 obtain⟨x,k,h1,h2⟩:=kR h;obtain⟨y,G,h3,D⟩:=kR h2;have:=aa1 h3;have:=(lN D).2;unfold nameP at h1
 split at h1
 ·have:=(lN h1).2;omega
 ·cases h1
theorem aeg{l:List Tok}{i j:Nat}{n:Int}(h:GK l i=.ok n j):i≤j:=by
 unfold GK at h
 split at h<;>split at h
 ·have:=(lN h).2;omega
 ·cases h
 ·have:=(lN h).2;omega
 ·cases h
theorem Uu{l:List Tok}{i j:Nat}{t:Tm}(h:OE l i=.ok t j):i≤j:=by
 unfold OE at h
 split at h
 ·cases h
 ·rename_i h0
  obtain⟨h1,h2⟩:=lN h;exact Nat.le_of_lt (wM (l:=l) (i:=i) (t:=t) (j:=j) (Prod.ext h1 (Prod.ext h2 (by simpa using h0)))).2.ij
theorem ajA{l:List Tok}{i j:Nat}{t:Fm}(h:fmP l i=.ok t j):i≤j:=by
 unfold fmP at h
 split at h
 ·cases h
 ·rename_i h0
  obtain⟨h1,h2⟩:=lN h;exact Nat.le_of_lt (GJ (l:=l) (i:=i) (f:=t) (j:=j) (Prod.ext h1 (Prod.ext h2 (by simpa using h0)))).2.ij
theorem ahV{l:List Tok}{i j:Nat}{v:Vr}(h:OD l i=.ok v j):i≤j:=by
 obtain⟨x,k,h1,h2⟩:=kR h;have a1:=MZ h1
 split at h2
 ·have:=(lN h2).2;omega
 ·obtain⟨_,O,h3,D⟩:=kR h2;obtain⟨_,Y,h5,G⟩:=kR D;obtain⟨_,k4,I,J⟩:=kR G;have:=aeg h3;have:=aa1 h5;have:=aeg I;have:=(lN J).2;omega
theorem aeh{l:List Tok}{i j:Nat}{v:Df}(h:Mi l i=.ok v j):i≤j:=by
 obtain⟨x,k,h1,h2⟩:=kR h;obtain⟨_,G,h3,D⟩:=kR h2;have:=MZ h1;have:=Uu h3;have:=(lN D).2;omega
theorem agm{l:List Tok}{i j:Nat}{v:Sp}(h:GL l i=.ok v j):i≤j:=by
 obtain⟨x,k,h1,h2⟩:=kR h;obtain⟨_,G,h3,D⟩:=kR h2;have:=MZ h1;have:=ajA h3;have:=(lN D).2;omega
theorem CQ{α β:Type}{r:Rs α}{f:α→β}{e:β}{i q:Nat}(h:r.map f=.ok e q)(D:∀x,r=.ok x q→i+1≤q):i<q:=by
 obtain⟨x,k,h1,h2⟩:=kR h;obtain⟨-,rfl⟩:=lN h2;exact D x h1
theorem ajB{l:List Tok}{i q:Nat}{e:El}(h:elP l i=.ok e q):i<q:=by
 unfold elP at h
 split at h
 ·exact CQ h fun _ h=>ahV h
 split at h
 ·exact CQ h fun _ h=>aeh h
 split at h
 ·exact CQ h fun _ h=>Uu h
 split at h
 ·exact CQ h fun _ h=>Uu h
 split at h
 ·exact CQ h fun _ h=>aeh h
 split at h
 ·exact CQ h fun _ h=>Uu h
 split at h
 ·exact CQ h fun _ h=>Uu h
 split at h
 ·exact CQ h fun _ h=>agm h
 ·cases h
theorem agn{l:List Tok}{m m':Md}{i j:Nat}(h:m_ l m i=.ok m' j):∃e q,elP l i=.ok e q∧ah l q 4 [59]=true∧j=q+1∧e.cnt m<64∧m'=e.put m:=by
 unfold m_ at h;obtain⟨x,k,h1,h2⟩:=kR h;obtain⟨u,I,h3,G⟩:=kR h2;obtain⟨rfl,rfl⟩:=lN G;obtain⟨e,he⟩:=agl h1;rw[adr he]at h1
 by_cases hc:64≤e.cnt m
 ·rw[iP hc]at h1;cases h1
 rw[iN hc]at h1;obtain⟨rfl,-⟩:=lN h1;unfold qJ at h3
 by_cases D:ah l k 4 [59]=true
 ·rw[iP D]at h3;obtain⟨-,rfl⟩:=lN h3;exact⟨e,k,he,D,rfl,by omega,rfl⟩
 ·rw[iN D]at h3;cases h3
set_option linter.unusedSimpArgs false
set_option maxRecDepth 100000
set_option maxHeartbeats 16000000
theorem ag5{o:Array Oper}{i:Nat}{x:Oper}(h:o.toList[i]?=some x):o[i]?=some x:=by simpa using h
def J5(V:Nat→Value):Value:=.agg #[V 0,V 1,V 2,V 3,V 4,V 5,V 6,V 7]
def MpQ(w:World)(r:Md×Int×Int)(e:Ending)(w':World):Prop:=∃V X G B R,e=.returned (.tuple #[J5 V,.int .i64 r.2.1,.int .i64 r.2.2])∧BJ w' B R V X G∧V8 G r.1∧w.heap.size≤B∧B≤R∧Below w.heap.size w w'
theorem KY:V8 (fun _=>[]) bG:=⟨rfl,rfl,rfl,rfl,rfl,rfl,rfl,rfl⟩
theorem agp{l:List Tok}{m m':Md}{i j:Nat}(h:m_ l m i=.ok m' j):i<j∧j≤l.length:=by
 obtain⟨e,q,h1,h2,rfl,-,-⟩:=agn h;have:=ajB h1;have:=Ck h2;omega
theorem rQ(tm:Array Value)(D:Nat)(z1 z2:Value)(G I J O Y u5 u6 u7:Value)(w:World)(h2:tm[2]?=some (.pointer (some ⟨D,0,none⟩)))(h3:tm[3]?=some z1)(h4:tm[4]?=some z2)(h:w.heap[D]?=some (.cells #[G,I,J,O,Y,u5,u6,u7] 28 (0,0))) :
 (results Tryz.f8 tm).run Tryz.prog w=.ok (.tuple #[.agg #[G,I,J,O,Y,u5,u6,u7],z1,z2]) w:=by
 obtain⟨y0,y1,y2,y3,y4,y5,y6,y7,-⟩:=q8 h;unfold results;rw[Tryz.results8];simp only[Array.getD_eq_getD_getElem?];simp[h2,h3,h4,go_sem,y0,y1,y2,y3,y4,y5,y6,y7]
theorem s8A{W:World}{b:Nat}{v0 v1 v2 v3 v4 v5 v6 v7 D G I J O Y u6 u7:Value}{T:TypeId}(h:W.heap[b]?=some (.cells #[D,G,I,J,O,Y,u6,u7] T (0,0))):((((((((W.setCell ⟨b,0,none⟩ v0).setCell ⟨b,1,none⟩ v1).setCell ⟨b,2,none⟩ v2).setCell ⟨b,3,none⟩ v3).setCell ⟨b,4,none⟩ v4).setCell ⟨b,5,none⟩ v5).setCell ⟨b,6,none⟩ v6).setCell ⟨b,7,none⟩ v7).heap[b]?=some (.cells #[v0,v1,v2,v3,v4,v5,v6,v7] T (0,0)):=by
 simp[World.setCell,Array.getElem?_modify,h]
theorem tZ{W:World}{b:Nat}(v0 v1 v2 v3 v4 v5 v6 v7:Value):Only (fun q=>q=b) W ((((((((W.setCell ⟨b,0,none⟩ v0).setCell ⟨b,1,none⟩ v1).setCell ⟨b,2,none⟩ v2).setCell ⟨b,3,none⟩ v3).setCell ⟨b,4,none⟩ v4).setCell ⟨b,5,none⟩ v5).setCell ⟨b,6,none⟩ v6).setCell ⟨b,7,none⟩ v7):=(((((((setAt _).trans (setAt _)).trans (setAt _)).trans (setAt _)).trans (setAt _)).trans (setAt _)).trans (setAt _)).trans (setAt _)
def ag6(l:List Tok)(n:Nat):Rs Md→Md×Int×Int
 |.bad i e=>(bG,Wv l n i,e)
 |.ok m _=>(m,(n:Int),0)
theorem ab8(s:Bs):parseM s=if (all s).2.2≠0 then(bG,(all s).2.1,(all s).2.2)else ag6 (all s).1 s.length (AB (all s).1 (all s).1.length bG 0):=by
 unfold parseM
 split
 ·rfl
 ·cases AB (all s).1 (all s).1.length bG 0<;>rfl
theorem FW(s:ByteArray)(w:World)(hs:s.size≤maxLen)(hT:Tables w) :
 Calls Tryz.prog 8 #[.string s] w (MpQ w (parseM (bs s))):=by
 have cs:=hs;unfold maxLen at cs;obtain⟨F,hF⟩:=aj (MpQ w (parseM (bs s)));rw[←hF];obtain⟨O,aS⟩:=aj w.heap.size;obtain⟨w1,hw1⟩:=aj (w.alloc (.cells #[.slice none 0 0,.slice none 0 0,.slice none 0 0,.slice none 0 0,.slice none 0 0,.slice none 0 0,.slice none 0 0,.slice none 0 0] 28));have hb1:=dz hw1;have cz:w1.heap.size=O+1:=by rw[hw1,aS];simp
 have yJ:=jZ hw1 aS;have ae:=agd s w1 hs (hT.below hb1);have hok:=WJ (bs s);obtain⟨l,hl⟩:=aj (all (bs s)).1;obtain⟨z1,bz⟩:=aj (all (bs s)).2.1;obtain⟨z2,bC⟩:=aj (all (bs s)).2.2;obtain⟨r0,Kq⟩:=ak (AB l l.length bG 0)
 have bE:Hid (F=MpQ w (if z2≠0 then(bG,z1,z2)else ag6 l (bs s).length r0)):=by
  show _=_;rw[hF,ab8,←hl,←bz,←bC,←Kq]
 rw[←hl,←bz,←bC]at ae;rw[←hl]at hok;have cp:=Hd ae;have BQ:=Hd hok;have cn:=Hd hw1;have cf:=Hd hb1;have qY:=Hd aS;have mg:Hid ((bs s).length=s.size):=aC s;clear hF hw1 hb1 ae hok hl bz bC hT aS;go_in;go_wp2_with fail;rw[←cn,←qY];refine cp.mono ?_;rintro e w2 ⟨v,rfl,af,aa⟩;have cd:=(aa.block O (by omega)).trans yJ;have kH:=Hd (cf.trans (aa.mono (by have:=qY.out;omega)));have ct:=aa.size;have b7:∀q,v.ownBlock=some q→w1.heap.size≤q:=fun q hq=>(af.lt q hq).1;obtain⟨A,c,hv,b6⟩:=Rv (.inr trivial) af BQ.1 BQ.2.2;obtain⟨n,HN⟩:=ak l.length;have b0:Hid (∀a,A=some a→w1.heap.size≤a.block):=fun a ha=>b7 a.block (by rw[hv,ha];rfl);rw[hv,←HN];clear b7;have FK:=Hd cd;have bf:=Hd b6;have a8:O<w2.heap.size:=by omega
 clear cd b6 af hv aa
 by_cases hz:z2=0
 ·rw[iN (by simpa using hz)]at bE;rw[hz];obtain⟨R,Y⟩:=ak w2.heap.size;obtain⟨w3,ab⟩:=ak (w2.alloc (.cells #[.slice A n c,.int .i64 0,.int .i64 0,.slice none 0 0,.slice none 0 0,.slice none 0 0,.slice none 0 0,.slice none 0 0,.slice none 0 0,.slice none 0 0,.slice none 0 0] 53));clear hz;go_wp2_with fail;rw[←ab,←Y];have bW:Hid (iI w3 R A c l):=bf.pt (dz ab) (Nat.le_of_eq Y.symm);have HA:Hid (∀a,A=some a→a.block<R):=fun a ha=>by rw[Y];exact bf.old a ha
  have cv:Hid (R<w3.heap.size):=by show _<_;rw[ab,Y];simp
  have cj:Hid (kF w3 R A n c 0 0 (fun _=>.slice none 0 0)):=by show kF _ _ _ _ _ _ _ _;unfold kF;rw[ab,Y];exact eu _ _
  have bd:Hid (l.length≤100000):=bf.len;have u_:Hid (Below w.heap.size w w3):=kH.trans ((dz ab).mono kH.size)
  go_loopg [] (n+1) (fun k wr=>∃(i:Nat)(x:Int)(V:Nat→Value)(X:Nat→List (List Value))(G:Nat→List El)(m:Md),kF wr R A n c i x V∧BJ wr R R V X G∧Below R w3 wr∧(∀j,j<8→(G j).length≤64)∧(x=0→V8 G m∧i≤n∧∃f,k=f+1∧n≤i+f∧AB l f m i=r0)∧(x≠0→r0=.bad i x))
  case atStart=>
   exact⟨0,0,fun _=>.slice none 0 0,fun _=>[],fun _=>[],bG,cj,qZ.nil _ _ _,Br _ _,fun _ _=>by simp,fun _=>⟨KY,zl _,n,rfl,by omega,by rw[Kq,HN]⟩,fun h=>absurd rfl h⟩
  case round=>
   obtain⟨i,x,V,X,G,m,av,b9,b1,b4,cb,cc⟩:=hrel;have dQ:=Hd av;have J:=Hd b9;have oU:=Hd b1;have VQ:=Hd b4;have ai:=Hd cb;have ao:=Hd cc;have c1:=av.c1;have c2:=av.c2;have Og:=av.lt;clear av b9 b1 b4 cb cc
   by_cases hx:x=0
   ·subst hx;obtain⟨b8,cr,f,bj,bk,ba⟩:=ai rfl;have bL:=Hd b8;clear b8
    by_cases hi:i<n
    ·have hd:=ab7 R A c i R l V X G m wr (by have:=HN.out;omega) (by rw[←HN];exact dQ) (bW.below oU HA) J bL (lr _) HA VQ;have HD:=Hd hd;have bv:(i:Int)<(n:Int):=by omega
     have ch:Hid (∃f',f=f'+1∧((m_ l m i).then fun m j=>AB l f' m j)=r0):=by
      cases f with
      |zero=>omega
      |succ f'=>exact⟨f',rfl,by rw[←ba,AB,iN (by have:=HN.out;omega)]⟩
     have cg:=Hd bk;have HK:=Hd bj;clear hd bj bk ba ai ao hi;go_wp2_with fail;refine HD.mono ?_;rintro e wr2 ⟨rfl,V',X',G',hc,b5,ar,bZ⟩;have HC:=Hd hc;have bP:=Hd b5;have bJ:=Hd (oU.trans ar);have b3:=Hd bZ;clear hc b5 ar bZ c1 c2 Og HD;go_wp2_with fail;obtain⟨f',cx,bb⟩:=ch.out
     cases hdp:m_ l m i with
     |bad j x=>
      have hc:=HC.out;rw[hdp]at hc bb
      go_roundg 0
      case rel=>exact⟨j,x,V',X',G',m,by rw[HN];exact hc.1,bP,bJ,b3,fun h=>absurd h hc.2,fun _=>bb.symm⟩
      case measure=>have:=HK.out;omega
     |ok m' j=>
      have hc:=HC.out;rw[hdp]at hc bb;have hu:=agp hdp
      go_roundg (f'+1)
      case rel=>exact⟨j,0,V',X',G',m',by rw[HN];exact hc.1,bP,bJ,b3,fun _=>⟨hc.2,by have:=HN.out;omega,f',rfl,by have:=cg.out;omega,bb⟩,fun h=>absurd rfl h⟩
      case measure=>have:=HK.out;omega
    ·have vN:Hid (F=MpQ w (m,((bs s).length:Int),0)):=by
      have hr:r0=.ok m i:=by
       rw[←ba]
       cases f with
       |zero=>rfl
       |succ f'=>rw[AB,iP (by have:=HN.out;omega)]
      show _=_;rw[bE,hr]
      rfl
     have bv:¬(i:Int)<(n:Int):=by omega
     have bg:O<R:=by rw[Y];exact a8
     have X2:Hid (wr.heap[O]?=some (.cells #[.slice none 0 0,.slice none 0 0,.slice none 0 0,.slice none 0 0,.slice none 0 0,.slice none 0 0,.slice none 0 0,.slice none 0 0] 28 (0,0))):=(oU.block O bg).trans (((dz ab).block O a8).trans FK);obtain⟨a0,p0,ax,-,-⟩:=J.shape (k:=0) (by omega);have k0:=dQ.cm (k:=0) (by omega);obtain⟨g0,bl⟩:=aj (G 0).length;rw[ax,←bl]at k0;rw[←bl]at ax;obtain⟨a1,p1,ay,-,-⟩:=J.shape (k:=1) (by omega);have k1:=dQ.cm (k:=1) (by omega);obtain⟨g1,bm⟩:=aj (G 1).length;rw[ay,←bm]at k1;rw[←bm]at ay;obtain⟨a2,p2,az,-,-⟩:=J.shape (k:=2) (by omega);have k2:=dQ.cm (k:=2) (by omega);obtain⟨g2,bn⟩:=aj (G 2).length;rw[az,←bn]at k2;rw[←bn]at az;obtain⟨a3,p3,aE,-,-⟩:=J.shape (k:=3) (by omega);have k3:=dQ.cm (k:=3) (by omega);obtain⟨g3,bo⟩:=aj (G 3).length;rw[aE,←bo]at k3;rw[←bo]at aE;obtain⟨a4,p4,aF,-,-⟩:=J.shape (k:=4) (by omega);have k4:=dQ.cm (k:=4) (by omega);obtain⟨g4,bp⟩:=aj (G 4).length;rw[aF,←bp]at k4;rw[←bp]at aF;obtain⟨a5,p5,Uh,-,-⟩:=J.shape (k:=5) (by omega);have k5:=dQ.cm (k:=5) (by omega);obtain⟨g5,br⟩:=aj (G 5).length;rw[Uh,←br]at k5;rw[←br]at Uh;obtain⟨a6,p6,aJ,-,-⟩:=J.shape (k:=6) (by omega);have k6:=dQ.cm (k:=6) (by omega);obtain⟨g6,bu⟩:=aj (G 6).length;rw[aJ,←bu]at k6
     rw[←bu]at aJ;obtain⟨a7,p7,aP,-,-⟩:=J.shape (k:=7) (by omega);have k7:=dQ.cm (k:=7) (by omega);obtain⟨g7,Ep⟩:=aj (G 7).length;rw[aP,←Ep]at k7;rw[←Ep]at aP;have ck:Hid (J5 V=.agg #[.slice a0 g0 p0,.slice a1 g1 p1,.slice a2 g2 p2,.slice a3 g3 p3,.slice a4 g4 p4,.slice a5 g5 p5,.slice a6 g6 p6,.slice a7 g7 p7]):=by show _=_;unfold J5;rw[ax,ay,az,aE,aF,Uh,aJ,aP]
     simp only[Nat.reduceAdd]at k0 k1 k2 k3 k4 k5 k6 k7;obtain⟨u0,u1,u2,u3,u4,u5,u6,u7,uz⟩:=q8 X2;have sG:=lH X2;clear ax bl ay bm az bn aE bo aF bp Uh br aJ bu aP Ep bj bk ba ai ao hi cr;go_wp2_with fail;refine bR (rQ _ O (.int .i64 (s.size:Nat)) (.int .i64 0) _ _ _ _ _ _ _ _ _ rfl rfl rfl (s8A X2)) rfl ?_;rw[vN];refine⟨V,X,G,R,R,?_,?_,bL,?_,lr _,?_⟩
     ·rw[ck,mg]
     ·exact J.move (fun q hq hl _=>(tZ _ _ _ _ _ _ _ _).block q hl (by omega)) (tZ _ _ _ _ _ _ _ _).size
     ·have:=qY.out;omega
     ·exact(u_.trans (oU.mono (by have:=qY.out;omega))).trans (b_ (tZ _ _ _ _ _ _ _ _) (by rw[qY];exact lr _) (by have:=qY.out;omega))
   ·have vN:Hid (F=MpQ w (bG,Wv l (bs s).length i,x)):=by show _=_;rw[bE,ao hx];rfl
    have cC:(x==0)=false:=by simpa using hx
    have bg:O<R:=by rw[Y];exact a8
    have X2:Hid (wr.heap[O]?=some (.cells #[.slice none 0 0,.slice none 0 0,.slice none 0 0,.slice none 0 0,.slice none 0 0,.slice none 0 0,.slice none 0 0,.slice none 0 0] 28 (0,0))):=(oU.block O bg).trans (((dz ab).block O a8).trans FK);have Ot:Hid (Below w.heap.size w wr):=u_.trans (oU.mono (by have:=qY.out;omega));have ag:=bW.below oU HA;have hlen:=bd.out;rw[←HN]at hlen
    by_cases hi:i<n
    ·obtain⟨tk,tb,off,ht,bh,cA,htl,-,-⟩:=aeb ag (show i<l.length by have:=HN.out;omega)
     have cw:tb≠O:=by
      have h1:=b0 _ bh;show tb≠O;have h2:w1.heap.size≤tb:=h1;omega
     have bw:wr.cell? ⟨tb,off+i*4+3,none⟩=some (.int .i64 tk.at_):=by
      rcases ag.toks with h0|⟨b',o',ar,-,hc⟩
      ·rw[h0]at ht;simp at ht
      ·rw[bh]at ar;cases ar;exact hc i tk ht 3 (by omega)
     have aw:Hid (Wv l (bs s).length i=tk.at_):=by show _=_;unfold Wv;rw[ht]
     obtain⟨ta,Uc⟩:=ak tk.at_;rw[←Uc]at aw bw;have bv:(i:Int)<(n:Int):=by omega
     have cy:(0:Int)≤(i:Int):=by omega
     have bi:=ag.cap;have aQ:=ag.bU;unfold maxLen at aQ;rw[←HN]at bi;subst bh;clear ag ht hi ai ao hx b0;go_wp2_with fail;refine wp_region_held_drew (S:=fun W=>W.cell? ⟨R,1,none⟩=some (.int .i64 (i:Nat))∧W.cell? ⟨R,2,none⟩=some (.int .i64 x)∧W.cell? ⟨tb,off+i*4+3,none⟩=some (.int .i64 ta)) (by kernel_rfl) ⟨c1,c2,bw⟩ (fun D=>?_);obtain⟨Wc,I⟩:=aj wr.drew;replace X2:Hid (Wc.heap[O]?=some (.cells #[.slice none 0 0,.slice none 0 0,.slice none 0 0,.slice none 0 0,.slice none 0 0,.slice none 0 0,.slice none 0 0,.slice none 0 0] 28 (0,0))):=by show _=_;rw[I];exact X2
     replace Ot:Hid (Below w.heap.size w Wc):=by show Below _ _ _;rw[I];exact Ot.drew
     have cq:R<Wc.heap.size:=by rw[I];exact Og
     have cB:tb<Wc.heap.size:=by rw[I];exact htl
     rw[←I]at D⊢;clear I c1 c2 bw Og htl
     repeat
      (first|refine aI 0 (v:=?_) rfl ?hy ?_|refine aI 1 (v:=?_) rfl ?hy ?_|refine aI 2 (v:=?_) rfl ?hy ?_|refine aI 3 (v:=?_) rfl ?hy ?_|refine aI 4 (v:=?_) rfl ?hy ?_|refine aI 5 (v:=?_) rfl ?hy ?_|refine aI 6 (v:=?_) rfl ?hy ?_|refine aI 7 (v:=?_) rfl ?hy ?_|refine aI 8 (v:=?_) rfl ?hy ?_|refine aI 9 (v:=?_) rfl ?hy ?_|refine aI 10 (v:=?_) rfl ?hy ?_|refine aI 11 (v:=?_) rfl ?hy ?_|refine aI 12 (v:=?_) rfl ?hy ?_|refine aI 13 (v:=?_) rfl ?hy ?_|refine aI 15 (v:=?_) rfl ?hy ?_|refine aI 16 (v:=?_) rfl ?hy ?_
       case hy=>
        intro w0 hS;obtain⟨h1,h2,h3⟩:=hS;go_simp
        (first|done|with_reducible rfl|rfl)
       try simp only[Act.put,aT,aU,aV])
     iterate 1
      all_goals first
       |refine Rd (rs:=[14]) (by decide +kernel) (by simp) (Rc (ag5 rfl) (fun K hK=>?_) Rn)
       |fail
      all_goals first
       |(refine Gw ?_
         obtain⟨u0,u1,u2,u3,u4,u5,u6,u7,uz⟩:=q8 X2;have sG:=lH X2;go_simp;clear u0 u1 u2 u3 u4 u5 u6 u7 uz sG;refine hK.out _ _ (⟨(World.cell?_of_block (a:=⟨R,1,none⟩) ((tZ _ _ _ _ _ _ _ _).block R (by assumption) (by omega))).trans D.1,(World.cell?_of_block (a:=⟨R,2,none⟩) ((tZ _ _ _ _ _ _ _ _).block R (by assumption) (by omega))).trans D.2.1,(World.cell?_of_block (a:=⟨tb,off+i*4+3,none⟩) ((tZ _ _ _ _ _ _ _ _).block tb (by assumption) (by omega))).trans D.2.2⟩) (fun D=>?_);clear hK K
         try simp only[Act.put,aT,aU,aV])
       |fail
      all_goals
       repeat
        (first|refine aI 0 (v:=?_) rfl ?hy ?_|refine aI 1 (v:=?_) rfl ?hy ?_|refine aI 2 (v:=?_) rfl ?hy ?_|refine aI 3 (v:=?_) rfl ?hy ?_|refine aI 4 (v:=?_) rfl ?hy ?_|refine aI 5 (v:=?_) rfl ?hy ?_|refine aI 6 (v:=?_) rfl ?hy ?_|refine aI 7 (v:=?_) rfl ?hy ?_|refine aI 8 (v:=?_) rfl ?hy ?_|refine aI 9 (v:=?_) rfl ?hy ?_|refine aI 10 (v:=?_) rfl ?hy ?_|refine aI 11 (v:=?_) rfl ?hy ?_|refine aI 12 (v:=?_) rfl ?hy ?_|refine aI 13 (v:=?_) rfl ?hy ?_|refine aI 15 (v:=?_) rfl ?hy ?_|refine aI 16 (v:=?_) rfl ?hy ?_
         case hy=>
          intro w0 hS;obtain⟨h1,h2,h3⟩:=hS;go_simp
          (first|done|with_reducible rfl|rfl)
         try simp only[Act.put,aT,aU,aV])
     all_goals refine wpAnyH_done (by decide +kernel) ?_ _
     all_goals
      go_wp2_with fail;refine bR (rQ _ O (.int .i64 ta) (.int .i64 x) _ _ _ _ _ _ _ _ _ rfl rfl rfl (s8A X2)) rfl ?_;rw[vN];exact⟨fun _=>.slice none 0 0,fun _=>[],fun _=>[],w.heap.size,w.heap.size,by rw[aw];rfl,qZ.nil _ _ _,KY,lr _,lr _,Ot.trans (b_ (tZ _ _ _ _ _ _ _ _) (by rw[qY];exact lr _) Ot.size)⟩
    ·have aw:Hid (Wv l (bs s).length i=(s.size:Nat)):=by
      show _=_;unfold Wv;rw[List.getElem?_eq_none (by have:=HN.out;omega),mg]
     have bv:¬(i:Int)<(n:Int):=by omega
     clear ag hi ai ao hx;go_wp2_with fail;refine wp_region_held_drew (S:=fun W=>W.cell? ⟨R,2,none⟩=some (.int .i64 x)) (by kernel_rfl) c2 (fun D=>?_);obtain⟨Wc,I⟩:=aj wr.drew;replace X2:Hid (Wc.heap[O]?=some (.cells #[.slice none 0 0,.slice none 0 0,.slice none 0 0,.slice none 0 0,.slice none 0 0,.slice none 0 0,.slice none 0 0,.slice none 0 0] 28 (0,0))):=by show _=_;rw[I];exact X2
     replace Ot:Hid (Below w.heap.size w Wc):=by show Below _ _ _;rw[I];exact Ot.drew
     have cq:R<Wc.heap.size:=by rw[I];exact Og
     rw[←I]at D⊢;clear I c1 c2 Og
     repeat
      (first|refine aI 0 (v:=?_) rfl ?hy ?_|refine aI 1 (v:=?_) rfl ?hy ?_|refine aI 2 (v:=?_) rfl ?hy ?_|refine aI 3 (v:=?_) rfl ?hy ?_|refine aI 4 (v:=?_) rfl ?hy ?_|refine aI 5 (v:=?_) rfl ?hy ?_|refine aI 6 (v:=?_) rfl ?hy ?_|refine aI 8 (v:=?_) rfl ?hy ?_|refine aI 9 (v:=?_) rfl ?hy ?_
       case hy=>
        intro w0 hS;have h2:=hS;clear hS;go_simp
        (first|done|with_reducible rfl|rfl)
       try simp only[Act.put,aT,aU,aV])
     iterate 1
      all_goals first
       |refine Rd (rs:=[7]) (by decide +kernel) (by simp) (Rc (ag5 rfl) (fun K hK=>?_) Rn)
       |fail
      all_goals first
       |(refine Gw ?_
         obtain⟨u0,u1,u2,u3,u4,u5,u6,u7,uz⟩:=q8 X2;have sG:=lH X2;go_simp;clear u0 u1 u2 u3 u4 u5 u6 u7 uz sG;refine hK.out _ _ ((World.cell?_of_block (a:=⟨R,2,none⟩) ((tZ _ _ _ _ _ _ _ _).block R (by assumption) (by omega))).trans D) (fun D=>?_);clear hK K
         try simp only[Act.put,aT,aU,aV])
       |fail
      all_goals
       repeat
        (first|refine aI 0 (v:=?_) rfl ?hy ?_|refine aI 1 (v:=?_) rfl ?hy ?_|refine aI 2 (v:=?_) rfl ?hy ?_|refine aI 3 (v:=?_) rfl ?hy ?_|refine aI 4 (v:=?_) rfl ?hy ?_|refine aI 5 (v:=?_) rfl ?hy ?_|refine aI 6 (v:=?_) rfl ?hy ?_|refine aI 8 (v:=?_) rfl ?hy ?_|refine aI 9 (v:=?_) rfl ?hy ?_
         case hy=>
          intro w0 hS;have h2:=hS;clear hS;go_simp
          (first|done|with_reducible rfl|rfl)
         try simp only[Act.put,aT,aU,aV])
     all_goals refine wpAnyH_done (by decide +kernel) ?_ _
     all_goals
      go_wp2_with fail;refine bR (rQ _ O (.int .i64 (s.size:Nat)) (.int .i64 x) _ _ _ _ _ _ _ _ _ rfl rfl rfl (s8A X2)) rfl ?_;rw[vN];exact⟨fun _=>.slice none 0 0,fun _=>[],fun _=>[],w.heap.size,w.heap.size,by rw[aw];rfl,qZ.nil _ _ _,KY,lr _,lr _,Ot.trans (b_ (tZ _ _ _ _ _ _ _ _) (by rw[qY];exact lr _) Ot.size)⟩
 ·have ci:Hid (F=MpQ w (bG,z1,z2)):=by show _=_;rw[bE,iP (by simpa using hz)]
  have cE:(z2 != 0)=true:=by simpa using hz
  obtain⟨u0,u1,u2,u3,u4,u5,u6,u7,uz⟩:=q8 FK;have sG:=lH FK;go_wp2_with fail;refine bR (rQ _ O (.int .i64 z1) (.int .i64 z2) _ _ _ _ _ _ _ _ _ rfl rfl rfl (s8A FK)) rfl ?_;rw[ci];exact⟨fun _=>.slice none 0 0,fun _=>[],fun _=>[],w.heap.size,w.heap.size,rfl,qZ.nil _ _ _,KY,lr _,lr _,kH.trans (b_ (tZ _ _ _ _ _ _ _ _) (by rw[qY];exact lr _) kH.size)⟩
end Go.Proofs.YtkhoeoilamddaaaGreatDoor
