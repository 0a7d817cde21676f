/- Walks and plain words: FsF FsG FsH. -/
import Derived.Test.YtkhoeoilamddaaaGreatDoorQFsD
namespace Go.Proofs.YtkhoeoilamddaaaGreatDoor
open Go.RowKit
set_option linter.unusedVariables false
set_option linter.unusedSimpArgs false
set_option maxRecDepth 100000
set_option maxHeartbeats 8000000
theorem aoM{o:Array Oper}{i:Nat}{x:Oper}(h:o.toList[i]?=some x):o[i]?=some x:=by simpa using h
structure PD(R:Nat)(A:Option Addr)(c d:Nat)(l:List Tok)(w:World)(b7:Nat)(op:Int)(sign:Bs)(P:gK)(r:Rs Fm)(wr:World)(ra:Rs Fm)(x:FV)(fuel:Nat):Prop where
 xb:wr.heap[w.heap.size]?=some (.cells #[.int .i64 0,.int .i64 0,.int .i64 0,.string ⟨#[]⟩,.slice none 0 0,.slice none 0 0] 67 (0,0))
 x7:wr.heap[b7]?=some (.cells #[.int .i64 x.o,.int .i64 x.tn,.int .i64 x.tm,.string x.s,.slice x.Ae x.ne x.ce,.slice x.A x.n x.c] 67 (0,0))
 is:∀f j,ra=.ok f j→x.Is (fun q=>w.heap.size<q∧q≠b7) wr f
 rd:kK wr R A l.length c ra.at_ d ra.err
 only:Only (fun q=>q=R) w wr
 gd:∀f j,ra=.ok f j→j≤l.length∧l.length≤fuel+j
 nz:∀j e,ra=.bad j e→e≠0
 re:(ra.then fun f j=>mH l op sign P fuel f j)=r
def agc(R n:Nat)(w:World):Nat:=match w.cell? ⟨R,1,none⟩,w.cell? ⟨R,3,none⟩with
 |some (.int _ i),some (.int _ x)=>if x=0 then n-i.toNat+1 else 0
 |_,_=>0
theorem KU{w:World}{R n c i d:Nat}{x:Int}{A:Option Addr}(h:kK w R A n c i d x):agc R n w=if x=0 then n-i+1 else 0:=by
 obtain⟨-,c1,-,c3,-⟩:=q4 h;unfold agc;rw[c1,c3];simp
theorem aaW{l:List Tok}{op:Int}{sign:Bs}{P:gK}{f:Fm}{j:Nat}(h:ah l j 4 sign=true)(K:Nat):mH l op sign P (K+1) f j=((P (j+1)).then fun g k=>.ok (fT op [f,g]) k).then fun g k=>mH l op sign P K g k:=by
 rw[mH,iP h];cases P (j+1)<;>rfl
theorem AZ{l:List Tok}{op:Int}{sign:Bs}{P:gK}{f:Fm}{j:Nat}(h:ah l j 4 sign=false)(K:Nat):mH l op sign P K f j=.ok f j:=by cases K<;>simp[mH,h]
theorem aoQ(R:Nat)(A:Option Addr)(c d:Nat)(l:List Tok)(op:Int)(sg:Bs)(P:gK)(hb:(op=3∧sg=[38]∧FnF R A c d l 177 P)∨(op=4∧sg=[124]∧FnF R A c d l 178 P))(hG:xV l P)(hZ:vw P):FnO R A c d l op (Eo l op sg P):=by
 rcases hb with⟨aJ,ae,hF⟩|⟨aJ,ae,hF⟩
 all_goals
  have gy:=Hd aJ;have AX:=Hd ae;clear aJ ae;intro i w hi hR hP;obtain⟨w1,hw1⟩:=aj (w.alloc (.cells #[.int .i64 0,.int .i64 0,.int .i64 0,.string ⟨#[]⟩,.slice none 0 0,.slice none 0 0] 67));have hb1:=dz hw1;have bP:w1.heap.size=w.heap.size+1:=by rw[hw1];simp
  have x1:w1.heap[w.heap.size]?=some (.cells #[.int .i64 0,.int .i64 0,.int .i64 0,.string ⟨#[]⟩,.slice none 0 0,.slice none 0 0] 67 (0,0)):=by rw[hw1];exact eu w _
  have sQ:=hR.below hb1 hR.lt;have bd:=hR.lt;have hlen:=hP.len;have ab:=hF i w1 hi sQ (hP.only (Ob hb1));obtain⟨r1,ai⟩:=aj (P i);rw[←ai]at ab;have bL:∀(fn:Fn)(first cap:Array Value)(w:World),(Instr.makeFunc fn first cap).run Tryz.prog w=.ok (.func fn first cap) w:=fun _ _ _ _=>rfl;obtain⟨n,hn⟩:=aj l.length;obtain⟨r,hr⟩:=aj (Eo l op sg P i);obtain⟨F,HF⟩:=ak (xY R A c d l r w);rw[←hr,←HF,gy];have kI:Hid ((r1.then fun f j=>mH l op sg P l.length f j)=r):=by show _=_;rw[hr,ai];rfl
  have QU:Hid (∀f j,r1=.ok f j→VP l i f j):=fun f j h=>hG i f j (by rw[←ai];exact h);have bl:Hid (∀j e,r1=.bad j e→e≠0):=fun j e h=>hZ i j e (by rw[←ai];exact h);have HC:=Hd ab;have Am:=Hd hF;have HG:=Hd hG;have HZ:=Hd hZ;have HP:=Hd hP;have HN:=Hd hn;have bk:=Hd hw1;have HO:Hid (Only (fun q=>q=R) w w1):=Ob hb1;have G:=Hd x1;rw[←hn]at hi hlen;clear hw1 hb1 hR sQ hF hP x1 ab hr ai hG hZ hn;go_in;go_wp2_with fail;rw[←bk];refine HC.mono ?_;rintro e w2 ⟨x,rfl,hx,ar,aw⟩;unfold FV.val;obtain⟨I,iY⟩:=aj w2.heap.size;obtain⟨w3,ay⟩:=aj (w2.alloc (.cells #[.int .i64 x.o,.int .i64 x.tn,.int .i64 x.tm,.string x.s,.slice x.Ae x.ne x.ce,.slice x.A x.n x.c] 67));have J:=dz ay;have x7:w3.heap[I]?=some (.cells #[.int .i64 x.o,.int .i64 x.tn,.int .i64 x.tm,.string x.s,.slice x.Ae x.ne x.ce,.slice x.A x.n x.c] 67 (0,0)):=by rw[ay,iY];exact eu w2 _
  have bv:=lL (lH G) aw.size;have MQ:I≠R:=by have:=ar.lt;omega
  have bm:w.heap.size<I:=by omega
  have JO:Hid (PD R A c d l w I op sg P r w3 r1 x l.length):=⟨(J.block w.heap.size bv).trans ((aw.block w.heap.size (lH G) (by omega)).trans G),x7,fun f j h=>((hx f j h).keep (S':=fun q=>w.heap.size<q∧q≠I) Kr (fun q hq h=>by have:=lH G;omega)).keep (Kb J) (fun _ _ h=>h),ar.below J ar.lt,HO.trans (aw.trans (Ob J)),fun f j h=>⟨(QU f j h).jl,by omega⟩,bl,kI⟩;have Ao:=Hd ay;have qM:=Hd iY;clear hx ar aw J x7 ay iY HC G HO;go_wp2_with fail;rw[←Ao,←qM]
  go_loopw [32] (fun _ wr=>∃(ra:Rs Fm)(x:FV)(fuel:Nat),PD R A c d l w I op sg P r wr ra x fuel) (fun _ wr=>agc R l.length wr)
  case atStart=>exact⟨r1,x,l.length,JO⟩
  case round=>
   obtain⟨ra,x,fuel,hS⟩:=hrel;have HS:=Hd hS;have G:=Hd hS.xb;have Y:=Hd hS.x7;clear hS JO
   rcases ra with⟨jb,eb⟩|⟨f,j⟩
   ·have hx:=HS.nz jb eb rfl;have bZ:(eb==0)=false:=by simpa using hx
    have az:Hid (F=xY R A c d l (.bad jb eb) w):=by show _=_;rw[HF,←HS.re];rfl
    obtain⟨c0,c1,-,c3,-⟩:=q4 (show kK wr R A l.length c jb d eb from HS.rd);have aS:=HS.rd.lt;clear hx;go_wp2_with fail
    go_quiet (fail)
    obtain⟨v0,v1,v2,v3,v4,v5,bW⟩:=q6 Y;obtain⟨u0,u1,u2,u3,u4,u5,eG⟩:=q6 G;have bw:=lH Y;have sG:=lH G;clear c0 c1 c3;go_wp2_with fail;clear v0 bW v1 v2 v3 v4 v5 u0 eG u1 u2 u3 u4 u5;refine bR (Ki (jD (W:=wr.drewN nq) G)) rfl ?_;rw[az];exact ou (x:=x) (r:=.bad jb eb) (w1:=wr) (fun f j h=>nomatch h) sG bd HS.rd (HS.only.drewN nq)
   ·have aE:=HS.gd f j rfl;have He:=Hd aE.2;have bJ:j≤n:=by rw[HN];exact aE.1
    have ax:kK wr R A n c j d 0:=by rw[HN];exact HS.rd
    have dQ:=Hd ax;obtain⟨c0,c1,-,c3,-⟩:=q4 ax;have aS:=ax.lt;have qx:=HP.only HS.only;have aF:=qx.cap;have aQ:=qx.bU;unfold maxLen at aQ;rw[←HN]at aF;have ae:=wB A c j l ⟨sg.toArray⟩ wr.drew qx.toks.ES qx.len qx.cap qx.bU (by omega);rw[←HN,show ah l j 4 (bs ⟨sg.toArray⟩)=ah l j 4 sg from rfl]at ae;have HI:=Hd (HS.is f j rfl);have bE:Hid (mH l op sg P fuel f j=r):=HS.re;clear aE ax qx
    by_cases hk:ah l j 4 sg=true
    ·rw[hk,AX]at ae;have qj:=Hd ae;have bp:j<n:=by rw[HN];exact dL hk
     obtain⟨fu,bf⟩:∃fu,fuel=fu+1:=⟨fuel-1,by have:=He.out;have:=HN.out;omega⟩;have a7:Hid (((P (j+1)).then fun g k=>.ok (fT op [f,g]) k).then (fun g k=>mH l op sg P fu g k)=r):=by show _=_;rw[←bE,bf,aaW hk]
     have Yk:Hid (l.length≤fu+(j+1)):=by show _≤_;have:=He.out;omega
     clear ae hk bf bE He;go_wp2_with fail
     go_region_held3 (fun w'=>w'.cell? ⟨R,0,none⟩=some (.slice A n c)∧w'.cell? ⟨R,1,none⟩=some (.int .i64 (j:Nat))∧w'.cell? ⟨R,3,none⟩=some (.int .i64 0))
      (first
        |(go_keep;done)
        |(go_split_ands
          refine⟨?_,?_,?_⟩
          ·(rw[aa.cell (p:=⟨R,_,none⟩) (by simp;omega)];simpa using c0)
          ·(rw[aa.cell (p:=⟨R,_,none⟩) (by simp;omega)];simpa using c1)
          ·(rw[aa.cell (p:=⟨R,_,none⟩) (by simp;omega)];simpa using c3))
        |fail)
      ((go_at_call 151;refine qj.mono ?_;rintro e w5 ⟨rfl,aa⟩))
     have O:Below wr.heap.size wr w5:=((Br _ _).drew).trans aa;have YB:=kX O G;have Y7:=kX O Y;have YO:=Hd (HS.only.trans (Ob O));have BF:=Hd (dQ.below O aS);have YI:Hid (x.Is (fun q=>w.heap.size<q∧q≠I) w5 f):=HI.keep (Kb O) (fun _ _ h=>h);clear aa O G Y dQ HI c0 c1 c3 qj;have G:=YB;have Y:=Y7;have HO:=YO;have dQ:=BF;have HI:=YI;clear YB Y7 YO BF YI;obtain⟨-,c1,-,-,fq⟩:=q4 dQ;have bz:=dQ.lt;go_wp2_with fail;clear c1 fq;obtain⟨w6,mV⟩:=aj (w5.setCell ⟨R,1,none⟩ (.int .i64 ((j:Int)+1)));obtain⟨Wc,af⟩:=aj w6.drew
     have Yl:kK Wc R A n c (j+1) d 0:=by
      have h:=dQ.at_ (j+1);rw[show((j+1:Nat):Int)=(j:Int)+1 from by omega]at h;rw[af,mV];exact h
     have a8:I≠(⟨R,1,none⟩:Addr).block:=MQ;have YB:Hid (Wc.heap[w.heap.size]?=some (.cells #[.int .i64 0,.int .i64 0,.int .i64 0,.string ⟨#[]⟩,.slice none 0 0,.slice none 0 0] 67 (0,0))):=by show _=_;rw[af,mV];exact(iw w5 ⟨R,1,none⟩ w.heap.size _ (by show w.heap.size≠R;omega)).trans G
     have Y7:Hid (Wc.heap[I]?=some (.cells #[.int .i64 x.o,.int .i64 x.tn,.int .i64 x.tm,.string x.s,.slice x.Ae x.ne x.ce,.slice x.A x.n x.c] 67 (0,0))):=by show _=_;rw[af,mV];exact(iw w5 ⟨R,1,none⟩ I _ a8).trans Y
     have YO:Hid (Only (fun q=>q=R) w Wc):=by show Only _ _ _;rw[af,mV];exact(HO.bq (show R=R from rfl) _).drewN 1
     have YI:Hid (x.Is (fun q=>w.heap.size<q∧q≠I) Wc f):=by show FV.Is _ _ _ _;rw[af,mV];exact(HI.keep (aR.refl.set (by omega) _) (fun _ _ h=>h)).keep ⟨lr _,fun _ _ _=>rfl⟩ (fun _ _ h=>h)
     rw[HN]at Yl;have aP:=Am (j+1) Wc (by have:=HN.out;omega) Yl (HP.only YO);obtain⟨r2,ao⟩:=aj (P (j+1));rw[←ao]at aP;rw[←ao]at a7;have ag:Hid (∀g k,r2=.ok g k→VP l (j+1) g k):=fun g k h=>HG (j+1) g k (by rw[←ao];exact h);have a6:Hid (∀k e,r2=.bad k e→e≠0):=fun k e h=>HZ (j+1) k e (by rw[←ao];exact h);have bj:=Hd aP;refine wp_region_held_drew (S:=fun w'=>w'.heap[w.heap.size]?=some (.cells #[.int .i64 0,.int .i64 0,.int .i64 0,.string ⟨#[]⟩,.slice none 0 0,.slice none 0 0] 67 (0,0))) (by kernel_rfl) (by rw[←mV,←af];exact YB) (fun D=>?_);rw[←mV,←af]at D;rw[←mV,←af];clear mV af G Y HO HI dQ Yl aP ao a8;have G:=YB;have Y:=Y7;have HO:=YO;have HI:=YI;clear YB Y7 YO YI
     repeat
      (first|refine aI 0 (v:=?_) rfl ?hy ?_|refine aI 2 (v:=?_) rfl ?hy ?_|refine aI 5 (v:=?_) rfl ?hy ?_
       case hy=>
        intro w0 hS;clear hS;go_simp
        (first|done|with_reducible rfl)
       try simp only[Act.put,aT,aU,aV])
     iterate 4
      all_goals first
       |refine Rd (rs:=[1,3]) (by decide +kernel) (by simp) (Rc (aoM rfl) (fun K hK=>?_) (Rc (aoM rfl) (fun K hK=>?_) Rn))
       |refine Rd (rs:=[3]) (by decide +kernel) (by simp) (Rc (aoM rfl) (fun K hK=>?_) Rn)
       |refine Rd (rs:=[1]) (by decide +kernel) (by simp) (Rc (aoM rfl) (fun K hK=>?_) Rn)
       |refine Rd (rs:=[4]) (by decide +kernel) (by simp) (Rc (aoM rfl) (fun K hK=>?_) Rn)
       |refine Rd (rs:=[6]) (by decide +kernel) (by simp) (Rc (aoM rfl) (fun K hK=>?_) Rn)
       |fail
      all_goals first
       |(refine Tj ?_
         obtain⟨v0,v1,v2,v3,v4,v5,bW⟩:=q6 Y;go_simp;clear v0 bW v1 v2 v3 v4 v5;refine hK.out _ _ (D) (fun D=>?_);clear hK K
         try simp only[Act.put,aT,aU,aV])
       |(refine WE ?_
         go_simp;(with_reducible refine(bj.out).mono ?_);rintro e Wc ⟨y,rfl,hy,ba,FJ⟩;unfold FV.val;have bh:=(FJ.block I (lH Y) MQ).trans Y;refine hK.out _ _ ((FJ.block w.heap.size (lH G) (by omega)).trans G) (fun D=>?_);clear hK K;(try simp only[Act.put,aT,aU,aV]);have YB:=Hd ((FJ.block w.heap.size (lH G) (by omega)).trans G);have Y7:=Hd bh;have YO:=Hd (HO.trans FJ);have YI:Hid (x.Is (fun q=>w.heap.size<q∧q≠I) Wc f):=HI.keep (aR.cO FJ (by omega)) (fun _ _ h=>h);have HY:Hid (∀g k,r2=.ok g k→y.Is (fun q=>w.heap.size<q∧q≠I) Wc g):=fun g k h=>(hy g k h).keep Kr (fun q _ h=>by have:=lH Y;omega);have dQ:=Hd ba;clear hy ba FJ bh G Y HO HI;have G:=YB;have Y:=Y7;have HO:=YO;have HI:=YI
         clear YB Y7 YO YI)
       |(refine QI ?_
         go_simp;obtain⟨g,hg⟩:=aj Wc.heap.size;obtain⟨W2,av⟩:=aj (Wc.alloc (.cells #[.int .i64 x.o,.int .i64 x.tn,.int .i64 x.tm,.string x.s,.slice x.Ae x.ne x.ce,.slice x.A x.n x.c,.int .i64 y.o,.int .i64 y.tn,.int .i64 y.tm,.string y.s,.slice y.Ae y.ne y.ce,.slice y.A y.n y.c] 67));have J:=dz av;have hrow:W2.heap[g]?=some (.cells (x.cells++y.cells).toArray 67 (0,0)):=by rw[av,hg];exact eu Wc _
         have bg:=(J.block I (lH Y)).trans Y;have Ep:g≠I:=by have:=lH Y;omega
         have bo:w.heap.size<g:=by have:=lH G;omega
         rw[←av,←hg];refine hK.out _ _ ((J.block w.heap.size (lH G)).trans G) (fun D=>?_);clear hK K;(try simp only[Act.put,aT,aU,aV]);have YB:=kX J G;have Y7:=Hd bg;have YO:=Hd (HO.trans (Ob J));have BF:=Hd (dQ.below J dQ.lt);have bi:Hid (∀h k,r2=.ok h k→(FV.mk op 0 0 ⟨#[]⟩ none 0 0 (some ⟨g,0,none⟩) 2 2).Is (fun q=>w.heap.size<q∧q≠I) W2 (fT op [f,h])):=fun h k hr=>FV.FH (HI.keep (Kb J) (fun _ _ h=>h)) ((HY h k hr).keep (Kb J) (fun _ _ h=>h)) ⟨bo,Ep⟩ hrow;clear J hrow bg G Y HO dQ HI HY av hg;have G:=YB;have Y:=Y7;have HO:=YO;have dQ:=BF
         clear YB Y7 YO BF)
       |(refine Gw ?_
         obtain⟨v0,v1,v2,v3,v4,v5,bW⟩:=q6 Y;go_simp;clear v0 bW v1 v2 v3 v4 v5;refine hK.out _ _ ((jH (by omega)).trans D) (fun D=>?_);clear hK K
         try simp only[Act.put,aT,aU,aV])
       |fail
      all_goals
       repeat
        (first|refine aI 0 (v:=?_) rfl ?hy ?_|refine aI 2 (v:=?_) rfl ?hy ?_|refine aI 5 (v:=?_) rfl ?hy ?_
         case hy=>
          intro w0 hS;clear hS;go_simp
          (first|done|with_reducible rfl)
         try simp only[Act.put,aT,aU,aV])
     all_goals refine wpAnyH_done (by decide +kernel) ?_ _
     all_goals
      clear D;have bu:=KU HS.rd;have vE:=ag;go_wp2_with fail;obtain⟨W9,CK⟩:=aj (((((((W2.setCell ⟨I,0,none⟩ (.int .i64 op)).setCell ⟨I,1,none⟩ (.int .i64 0)).setCell ⟨I,2,none⟩ (.int .i64 0)).setCell ⟨I,3,none⟩ (.string ⟨#[]⟩)).setCell ⟨I,4,none⟩ (.slice none 0 0)).setCell ⟨I,5,none⟩ (.slice (some ⟨g,0,none⟩) 2 2)))
      have Oj:PD R A c d l w I op sg P r W9 (r2.then fun g k=>.ok (fT op [f,g]) k) (FV.mk op 0 0 ⟨#[]⟩ none 0 0 (some ⟨g,0,none⟩) 2 2) fu:=by
       refine⟨?_,?_,fun q k h=>?_,?_,?_,fun q k h=>?_,fun k e h=>?_,a7⟩
       ·rw[CK];exact(jH (by omega)).trans G
       ·rw[CK];exact jD Y
       ·obtain⟨h',k',h1,h2⟩:=then_ok h;obtain⟨rfl,rfl⟩:=bH h2;rw[CK];exact(bi h' k' h1).keep (mO Kr (by simp)) (fun _ _ h=>h)
       ·rw[CK];have bn:kK ((((((W2.setCell ⟨I,0,none⟩ (.int .i64 op)).setCell ⟨I,1,none⟩ (.int .i64 0)).setCell ⟨I,2,none⟩ (.int .i64 0)).setCell ⟨I,3,none⟩ (.string ⟨#[]⟩)).setCell ⟨I,4,none⟩ (.slice none 0 0)).setCell ⟨I,5,none⟩ (.slice (some ⟨g,0,none⟩) 2 2)) R A l.length c r2.at_ d r2.err:=(jH (Ne.symm MQ)).trans dQ;cases r2<;>exact bn
       ·rw[CK];exact o9 HO (Nat.le_of_lt bm)
       ·obtain⟨h',k',h1,h2⟩:=then_ok h;obtain⟨rfl,rfl⟩:=bH h2;have:=ag h' k' h1;have:=Yk.out;exact⟨(ag h' k' h1).jl,by have:=(ag h' k' h1).ij;omega⟩
       ·rcases dh h with h1|⟨x,k,-,h1⟩
        ·exact a6 k e h1
        ·cases h1
      have br:=KU Oj.rd;rw[gy]at CK;rw[←CK];clear CK
      go_roundw
      case rel=>exact⟨_,_,fu,Oj⟩
      case measure=>
       rw[br,bu];have bC:=HN.out
       cases r2 with
       |bad k e=>simp[Rs.err,Rs.at_,a6.out k e rfl]
       |ok h' k=>
        have:=(ag h' k rfl).ij;have:=(ag h' k rfl).jl;simp only[Rs.then_ok,Rs.err,Rs.at_,if_true];omega
    ·have sF:ah l j 4 sg=false:=by simpa using hk
     have az:Hid (F=xY R A c d l (.ok f j) w):=by show _=_;rw[HF,←bE,AZ sF]
     rw[sF,AX]at ae;have qj:=Hd ae;clear ae hk sF;go_wp2_with fail
     go_region_held3 (fun w'=>w'.cell? ⟨R,0,none⟩=some (.slice A n c)∧w'.cell? ⟨R,1,none⟩=some (.int .i64 (j:Nat))∧w'.cell? ⟨R,3,none⟩=some (.int .i64 0))
      (first
        |(go_keep;done)
        |(go_split_ands
          refine⟨?_,?_,?_⟩
          ·(rw[aa.cell (p:=⟨R,_,none⟩) (by simp;omega)];simpa using c0)
          ·(rw[aa.cell (p:=⟨R,_,none⟩) (by simp;omega)];simpa using c1)
          ·(rw[aa.cell (p:=⟨R,_,none⟩) (by simp;omega)];simpa using c3))
        |fail)
      ((go_at_call 151;refine qj.mono ?_;rintro e w5 ⟨rfl,aa⟩))
     have O:Below wr.heap.size wr w5:=((Br _ _).drew).trans aa;have YB:=kX O G;have Y7:=kX O Y;have YO:=Hd (HS.only.trans (Ob O));have BF:=Hd (dQ.below O aS);have YI:Hid (x.Is (fun q=>w.heap.size<q∧q≠I) w5 f):=HI.keep (Kb O) (fun _ _ h=>h);clear aa O G Y dQ HI c0 c1 c3 qj;have G:=YB;have Y:=Y7;have HO:=YO;have dQ:=BF;have HI:=YI;clear YB Y7 YO BF YI;obtain⟨v0,v1,v2,v3,v4,v5,bW⟩:=q6 Y;obtain⟨u0,u1,u2,u3,u4,u5,eG⟩:=q6 G;have bw:=lH Y;have sG:=lH G;go_wp2_with fail;clear v0 bW v1 v2 v3 v4 v5 u0 eG u1 u2 u3 u4 u5;refine bR (Ki (jD G)) rfl ?_;rw[az];have bb:=dQ.out;rw[HN]at bb
     exact ou (x:=x) (r:=.ok f j) (w1:=w1) (fun f' j' h=>by
      obtain⟨rfl,rfl⟩:=bH h
      exact HI.keep Kr (fun q _ h=>by have:=h.1;omega)) (by omega) bd bb HO
def inn(d:Nat)(P:gK)(i:Nat):Rs Fm:=if d=256 then .bad i 17 else P (i+1)
theorem abW(R:Nat)(A:Option Addr)(c d:Nat)(l:List Tok)(P PF:gK)(hd:d≤256)(hF:FnO R A c d l 4 P)(hG:xV l P)(hZ:vw P)(aS:d<256→FnF R A c (d+1) l 124 PF) :
 FnF R A c d l 124 (fun i=>(P i).then fun f j=>if ah l j 4 [45,62]=true then(inn d PF j).then fun g k=>.ok (fT 5 [f,g]) k else .ok f j):=by
 intro i w hi hR hP;obtain⟨w1,hw1⟩:=aj (w.alloc (.cells #[.int .i64 0,.int .i64 0,.int .i64 0,.string ⟨#[]⟩,.slice none 0 0,.slice none 0 0] 67));have hb1:=dz hw1;have bp:w1.heap.size=w.heap.size+1:=by rw[hw1];simp
 have x1:w1.heap[w.heap.size]?=some (.cells #[.int .i64 0,.int .i64 0,.int .i64 0,.string ⟨#[]⟩,.slice none 0 0,.slice none 0 0] 67 (0,0)):=by rw[hw1];exact eu w _
 have sQ:=hR.below hb1 hR.lt;have a7:=hR.lt;have hlen:=hP.len;have aa:=hF i w1 hi sQ (hP.only (Ob hb1));obtain⟨r1,ao⟩:=aj (P i);rw[←ao]at aa;have bo:∀(fn:Fn)(first cap:Array Value)(w:World),(Instr.makeFunc fn first cap).run Tryz.prog w=.ok (.func fn first cap) w:=fun _ _ _ _=>rfl;obtain⟨n,hn⟩:=aj l.length;obtain⟨F,vU⟩:=aj (xY R A c d l ((P i).then fun f j=>if ah l j 4 [45,62]=true then(inn d PF j).then fun g k=>.ok (fT 5 [f,g]) k else .ok f j) w);show Calls _ _ _ _ (xY R A c d l ((P i).then fun f j=>if ah l j 4 [45,62]=true then(inn d PF j).then fun g k=>.ok (fT 5 [f,g]) k else .ok f j) w);rw[←vU];rw[←ao]at vU;have QU:Hid (∀f j,r1=.ok f j→VP l i f j):=fun f j h=>hG i f j (by rw[←ao];exact h);have bf:Hid (∀j e,r1=.bad j e→e≠0):=fun j e h=>hZ i j e (by rw[←ao];exact h);have HC:=Hd aa;have HF:=Hd vU;have bb:=Hd aS;have HP:=Hd hP;have HN:=Hd hn;have bd:=Hd hw1;have O:Hid (Only (fun q=>q=R) w w1):=Ob hb1;have G:=Hd x1;rw[←hn]at hi hlen;clear vU hw1 hb1 hR sQ hF hP x1 aa ao hG hZ hn aS;go_in;go_wp2_with fail;rw[←bd];refine HC.mono ?_;rintro e w2 ⟨x,rfl,hx,ar,av⟩;unfold FV.val;obtain⟨J,iY⟩:=aj w2.heap.size
 obtain⟨w3,ax⟩:=aj (w2.alloc (.cells #[.int .i64 x.o,.int .i64 x.tn,.int .i64 x.tm,.string x.s,.slice x.Ae x.ne x.ce,.slice x.A x.n x.c] 67));have ag:=dz ax;have Y:=jZ ax iY;have bk:=lL (lH G) av.size;have MQ:J≠R:=by have:=ar.lt;omega
 have bn:w.heap.size<J:=by omega
 have YB:=Hd ((ag.block w.heap.size bk).trans ((av.block w.heap.size (lH G) (by omega)).trans G));have aP:Hid (∀f j,r1=.ok f j→x.Is (fun q=>w.heap.size<q∧q≠J) w3 f):=fun f j h=>((hx f j h).keep (S':=fun q=>w.heap.size<q∧q≠J) Kr (fun q hq h=>by have:=lH G;omega)).keep (Kb ag) (fun _ _ h=>h);have dQ:=Hd (ar.below ag ar.lt);have YO:=Hd (O.trans (av.trans (Ob ag)));have Ao:=Hd ax;have qM:=Hd iY;clear hx ar av ag ax iY HC G O;have G:=YB;have O:=YO;clear YB YO
 rcases r1 with⟨jb,eb⟩|⟨f,j⟩
 ·have hx:=bf jb eb rfl;have br:(eb==0)=false:=by simpa using hx
  have af:Hid (F=xY R A c d l (.bad jb eb) w):=HF;obtain⟨c0,c1,-,c3,-⟩:=q4 (show kK w3 R A l.length c jb d eb from dQ);have aJ:=dQ.lt;clear hx;go_wp2_with fail;rw[←Ao,←qM];try go_wp2_with fail
  go_quiet (fail)
  obtain⟨v0,v1,v2,v3,v4,v5,bW⟩:=q6 Y;obtain⟨u0,u1,u2,u3,u4,u5,eG⟩:=q6 G;have ba:=lH Y;have sG:=lH G;clear c0 c1 c3;go_wp2_with fail;clear v0 bW v1 v2 v3 v4 v5 u0 eG u1 u2 u3 u4 u5;refine bR (Ki (jD (W:=w3.drewN nq) G)) rfl ?_;rw[af];exact ou (x:=x) (r:=.bad jb eb) (w1:=w1) (fun f j h=>nomatch h) (by omega) a7 dQ (O.drewN nq)
 ·have bi:=(QU f j rfl).jl;rw[←HN]at bi;have HI:=Hd (aP f j rfl);have aw:kK w3 R A n c j d 0:=by rw[HN];exact dQ
  obtain⟨c0,c1,-,c3,-⟩:=q4 aw;have aJ:=aw.lt;have qx:=HP.only O;have aE:=qx.cap;have aQ:=qx.bU;unfold maxLen at aQ;rw[←HN]at aE;have ae:=wB A c j l ⟨#[45,62]⟩ w3.drew qx.toks.ES qx.len qx.cap qx.bU (by omega);rw[←HN,show ah l j 4 (bs ⟨#[45,62]⟩)=ah l j 4 [45,62]from rfl]at ae;have bE:Hid (F=xY R A c d l (if ah l j 4 [45,62]=true then(inn d PF j).then fun g k=>.ok (fT 5 [f,g]) k else .ok f j) w):=HF;clear dQ aP qx;have dQ:=Hd aw;clear aw
  by_cases hk:ah l j 4 [45,62]=true
  ·have af:Hid (F=xY R A c d l ((inn d PF j).then fun g k=>.ok (fT 5 [f,g]) k) w):=by show _=_;rw[bE,iP hk]
   have aF:=dL hk;rw[hk]at ae;have qj:=Hd ae;clear ae hk;go_wp2_with fail;rw[←Ao,←qM];try go_wp2_with fail
   go_region_held3 (fun w'=>w'.cell? ⟨R,0,none⟩=some (.slice A n c)∧w'.cell? ⟨R,1,none⟩=some (.int .i64 (j:Nat))∧w'.cell? ⟨R,3,none⟩=some (.int .i64 0))
    (first
      |(go_keep;done)
      |(go_split_ands
        refine⟨?_,?_,?_⟩
        ·(rw[I.cell (p:=⟨R,_,none⟩) (by simp;omega)];simpa using c0)
        ·(rw[I.cell (p:=⟨R,_,none⟩) (by simp;omega)];simpa using c1)
        ·(rw[I.cell (p:=⟨R,_,none⟩) (by simp;omega)];simpa using c3))
      |fail)
    ((go_at_call 151;refine qj.mono ?_;rintro e w5 ⟨rfl,I⟩))
   have D:Below w3.heap.size w3 w5:=((Br _ _).drew).trans I;replace G:=kX D G;replace Y:=kX D Y;replace O:=Hd (O.trans (Ob D));replace dQ:=Hd (dQ.below D aJ);replace HI:Hid (x.Is (fun q=>w.heap.size<q∧q≠J) w5 f):=HI.keep (Kb D) (fun _ _ h=>h);clear I D c0 c1 c3 qj;have CO:kK w5 R A l.length c j d 0:=by rw[←HN];exact dQ
   have ay:=uK R A c d l 124 PF j w5 (fun _ _=>by kernel_rfl) bb hd aF CO (HP.only O);rw[show(if d=256 then Rs.bad j 17 else PF (j+1))=inn d PF j from rfl]at ay;obtain⟨r2,a8⟩:=aj (inn d PF j);rw[←a8]at ay af;have Oe:=Hd ay;clear CO ay a8;go_wp2_with fail;refine Oe.mono ?_;rintro e w6 ⟨y,rfl,hy,uI,iX⟩;unfold FV.val;have Y7:=Hd ((iX.block J (lH Y) MQ).trans Y);have YB:=Hd ((iX.block w.heap.size (lH G) (by omega)).trans G);have YO:=Hd (O.trans iX);have YI:Hid (x.Is (fun q=>w.heap.size<q∧q≠J) w6 f):=HI.keep (aR.cO iX (by omega)) (fun _ _ h=>h);have HY:Hid (∀g k,r2=.ok g k→y.Is (fun q=>w.heap.size<q∧q≠J) w6 g):=fun g k h=>(hy g k h).keep Kr (fun q _ h=>by have:=lH Y;omega);have o7:=Hd uI;clear hy uI iX G Y O HI dQ Oe;have G:=YB;have Y:=Y7;have O:=YO;have HI:=YI;clear YB Y7 YO YI;obtain⟨v0,v1,v2,v3,v4,v5,bW⟩:=q6 Y;obtain⟨u0,u1,u2,u3,u4,u5,eG⟩:=q6 G;have ba:=lH Y;have sG:=lH G;go_wp2_with fail;clear v0 bW v1 v2 v3 v4 v5 u0 eG u1 u2 u3 u4 u5
   obtain⟨W0,ab⟩:=aj (((((((((((((w6.setCell ⟨J,0,none⟩ (.int .i64 5)).setCell ⟨J,1,none⟩ (.int .i64 0)).setCell ⟨J,2,none⟩ (.int .i64 0)).setCell ⟨J,3,none⟩ (.string ⟨#[]⟩)).setCell ⟨J,4,none⟩ (.slice none 0 0)).setCell ⟨J,5,none⟩ (.slice (some ⟨w6.heap.size+1,0,none⟩) 2 2)).setCell ⟨w.heap.size,0,none⟩ (.int .i64 5)).setCell ⟨w.heap.size,1,none⟩ (.int .i64 0)).setCell ⟨w.heap.size,2,none⟩ (.int .i64 0)).setCell ⟨w.heap.size,3,none⟩ (.string ⟨#[]⟩)).setCell ⟨w.heap.size,4,none⟩ (.slice none 0 0)).setCell ⟨w.heap.size,5,none⟩ (.slice (some ⟨w6.heap.size+1,0,none⟩) 2 2)));have bl:W0.heap.size=w6.heap.size:=by rw[ab];simp
   have bm:W0.heap[w.heap.size]?=some (.cells #[.int .i64 5,.int .i64 0,.int .i64 0,.string ⟨#[]⟩,.slice none 0 0,.slice (some ⟨w6.heap.size+1,0,none⟩) 2 2] 67 (0,0)):=by rw[ab];exact jD ((jH (by omega)).trans G)
   have az:kK W0 R A l.length c r2.at_ d r2.err:=by rw[ab];exact(jH (by omega)).trans ((jH (by omega)).trans o7)
   have bg:Only (fun q=>q=R) w W0:=by rw[ab];exact o9 (o9 O (by omega)) (lr _)
   have bj:aR (fun q=>w.heap.size<q∧q≠J) w6 W0:=by rw[ab];exact mO (mO Kr (by simp)) (by simp)
   rw[←ab];clear ab;refine bR (Ki (aK (aK bm))) rfl ?_;rw[af];have ai:=eu (W0.alloc (.cells #[.int .i64 y.o,.int .i64 y.tn,.int .i64 y.tm,.string y.s,.slice y.Ae y.ne y.ce,.slice y.A y.n y.c] 67)) (.cells (x.cells++y.cells).toArray 67);rw[show(W0.alloc (.cells #[.int .i64 y.o,.int .i64 y.tn,.int .i64 y.tm,.string y.s,.slice y.Ae y.ne y.ce,.slice y.A y.n y.c] 67)).heap.size=w6.heap.size+1 from by simp[bl]]at ai;have hkk:=(bj.alloc (.cells #[.int .i64 y.o,.int .i64 y.tn,.int .i64 y.tm,.string y.s,.slice y.Ae y.ne y.ce,.slice y.A y.n y.c] 67)).alloc (.cells (x.cells++y.cells).toArray 67);refine aaU (x:=x) (y:=y) (op:=5) (by omega) ai (fun q' m h=>?_) ?_ (mP (mP bg _) _)
   ·obtain⟨g,k,h1,h2⟩:=then_ok h;obtain⟨rfl,rfl⟩:=bH h2;exact⟨f,g,rfl,HI.keep hkk (fun _ _ h=>Nat.le_of_lt h.1),(HY g k h1).keep hkk (fun _ _ h=>Nat.le_of_lt h.1)⟩
   ·have bh:kK ((W0.alloc (.cells #[.int .i64 y.o,.int .i64 y.tn,.int .i64 y.tm,.string y.s,.slice y.Ae y.ne y.ce,.slice y.A y.n y.c] 67)).alloc (.cells (x.cells++y.cells).toArray 67)) R A l.length c r2.at_ d r2.err:=(az.below ((Br _ _).alloc (lr _) _) az.lt).below (((Br _ _).alloc (lr _) _)) (by simp;have:=az.lt;omega);cases r2<;>exact bh
  ·have sF:ah l j 4 [45,62]=false:=by simpa using hk
   have af:Hid (F=xY R A c d l (.ok f j) w):=by show _=_;rw[bE,iN hk]
   rw[sF]at ae;have qj:=Hd ae;clear ae hk sF;go_wp2_with fail;rw[←Ao,←qM];try go_wp2_with fail
   go_region_held3 (fun w'=>w'.cell? ⟨R,0,none⟩=some (.slice A n c)∧w'.cell? ⟨R,1,none⟩=some (.int .i64 (j:Nat))∧w'.cell? ⟨R,3,none⟩=some (.int .i64 0))
    (first
      |(go_keep;done)
      |(go_split_ands
        refine⟨?_,?_,?_⟩
        ·(rw[I.cell (p:=⟨R,_,none⟩) (by simp;omega)];simpa using c0)
        ·(rw[I.cell (p:=⟨R,_,none⟩) (by simp;omega)];simpa using c1)
        ·(rw[I.cell (p:=⟨R,_,none⟩) (by simp;omega)];simpa using c3))
      |fail)
    ((go_at_call 151;refine qj.mono ?_;rintro e w5 ⟨rfl,I⟩))
   have D:Below w3.heap.size w3 w5:=((Br _ _).drew).trans I;replace G:=kX D G;replace Y:=kX D Y;replace O:=Hd (O.trans (Ob D));replace dQ:=Hd (dQ.below D aJ);replace HI:Hid (x.Is (fun q=>w.heap.size<q∧q≠J) w5 f):=HI.keep (Kb D) (fun _ _ h=>h);clear I D c0 c1 c3 qj;obtain⟨v0,v1,v2,v3,v4,v5,bW⟩:=q6 Y;obtain⟨u0,u1,u2,u3,u4,u5,eG⟩:=q6 G;have ba:=lH Y;have sG:=lH G;go_wp2_with fail;clear v0 bW v1 v2 v3 v4 v5 u0 eG u1 u2 u3 u4 u5;refine bR (Ki (jD G)) rfl ?_;rw[af];have a6:=dQ.out;rw[HN]at a6
   exact ou (x:=x) (r:=.ok f j) (w1:=w1) (fun f' j' h=>by
    obtain⟨rfl,rfl⟩:=bH h
    exact HI.keep Kr (fun q _ h=>by have:=h.1;omega)) (by omega) a7 a6 O
set_option maxHeartbeats 16000000
theorem ad1{S:Nat→Prop}{w:World}{x:FV}{f:Fm}(h:x.Is S w f)(op:Int):(FV.mk op x.tn x.tm x.s x.Ae x.ne x.ce x.A x.n x.c).Is S w (.mk op f.tm f.kids):=⟨rfl,h.tn,h.tm,h.s,h.ne,h.n,h.v.tm,h.v.cap,h.v.bU,h.v.kids⟩
def ET(l:List Tok)(d:Nat)(PU PF:gK):gK:=fun i=>
 if n_ l i≠0 then(inn d PU i).then fun f j=>.ok (fT (n_ l i) [f]) j
 else if ah l i 3 [69]=true then(inn d (AY l PF) i).then fun f j=>.ok (.mk 9 f.tm f.kids) j
 else if ah l i 3 [65]=true then(inn d (AY l PF) i).then fun f j=>.ok (.mk 13 f.tm f.kids) j
 else if ah l i 4 [40]=true then thenTk l (inn d PF i) 4 [41] id
 else if ah l i 4 [91]=true then Bz l i
 else .bad i 16
theorem abX(R:Nat)(A:Option Addr)(c d:Nat)(l:List Tok)(PU PF:gK)(hd:d≤256)(bv:d<256→FnF R A c (d+1) l 177 PU)(bi:d<256→FnF R A c (d+1) l 124 PF)(hG:xV l PF)(hZ:vw PF) :
 FnF R A c d l 177 (ET l d PU PF):=by
 intro i w hi hR hP;obtain⟨w1,hw1⟩:=aj (w.alloc (.cells #[.int .i64 0,.int .i64 0,.int .i64 0,.string ⟨#[]⟩,.slice none 0 0,.slice none 0 0] 67));have hb1:=dz hw1;have cg:w1.heap.size=w.heap.size+1:=by rw[hw1];simp
 have x1:w1.heap[w.heap.size]?=some (.cells #[.int .i64 0,.int .i64 0,.int .i64 0,.string ⟨#[]⟩,.slice none 0 0,.slice none 0 0] 67 (0,0)):=by rw[hw1];exact eu w _
 have sQ:=hR.below hb1 hR.lt;have bj:=hR.lt;have hlen:=hP.len;have cf:∀(fn:Fn)(first cap:Array Value)(w:World),(Instr.makeFunc fn first cap).run Tryz.prog w=.ok (.func fn first cap) w:=fun _ _ _ _=>rfl;obtain⟨n,hn⟩:=aj l.length;have ag:=adS R A c i d l w1 sQ (hP.only (Ob hb1)) (by omega);obtain⟨op,gy⟩:=ak (n_ l i);rw[←gy]at ag;obtain⟨F,HF⟩:=ak (xY R A c d l (ET l d PU PF i) w);rw[←HF];have bu:Hid (d<256→FnF R A c (d+1) l 195 (AY l PF)):=fun h=>XM R A c (d+1) l PF (bi h) hG hZ;have HC:=Hd ag;have He:=Hd bv;have bP:=Hd bi;have HG:=Hd hG;have HZ:=Hd hZ;have HP:=Hd hP;have HN:=Hd hn;have b3:=Hd hw1;have Y:Hid (kK w1 R A n c i d 0):=by show kK _ _ _ _ _ _ _ _;rw[hn];exact sQ
 have O:Hid (Only (fun q=>q=R) w w1):=Ob hb1;have I:=Hd x1;have bl:=hP.cap;have aQ:=hP.bU;unfold maxLen at aQ;rw[←hn]at hi hlen bl;clear hw1 hb1 hR sQ hP x1 ag hG hZ hn bv bi;go_in;go_wp2_with fail;rw[←b3];refine HC.mono ?_;rintro e w2 ⟨rfl,bd⟩;replace I:=kX bd I;replace O:=Hd (O.trans (Ob bd));replace Y:=Hd (Y.below bd Y.lt);clear bd HC
 by_cases hz:op=0
 ·subst hz;have qx:=HP.only O;have J:=G_ A c i l 3 ⟨#[69]⟩ w2.drew qx.toks.ES qx.len qx.cap qx.bU (by have:=qx.len;omega);rw[show ah l i 3 (bs ⟨#[69]⟩)=ah l i 3 [69]from rfl,←HN]at J;clear qx;obtain⟨c0,c1,-⟩:=q4 Y;have cd:=Y.lt
  by_cases hk:ah l i 3 [69]=true
  ·have a6:Hid (ah l i 3 [69]=true):=hk;rw[hk]at J;have qj:=Hd J;clear J hk;go_wp2_with fail
   go_region_held3 (fun w'=>w'.cell? ⟨R,0,none⟩=some (.slice A n c)∧w'.cell? ⟨R,1,none⟩=some (.int .i64 (i:Nat)))
    (first
      |(go_keep;done)
      |(go_split_ands
        refine⟨?_,?_⟩
        ·(rw[G.cell (p:=⟨R,_,none⟩) (by simp;omega)];simpa using c0)
        ·(rw[G.cell (p:=⟨R,_,none⟩) (by simp;omega)];simpa using c1))
      |fail)
    ((go_at_call 179;refine qj.mono ?_;rintro e w5 ⟨rfl,G⟩))
   have D:Below w2.heap.size w2 w5:=((Br _ _).drew).trans G;obtain⟨u2,aE⟩:=aj w5;rw[←aE]at D⊢;replace I:=kX D I;replace O:=Hd (O.trans (Ob D));replace Y:=Hd (Y.below D Y.lt);clear G D aE c0 c1 qj;have CF:=a6;have af:Hid (F=xY R A c d l ((inn d (AY l PF) i).then fun f j=>.ok (.mk 9 f.tm f.kids) j) w):=by show _=_;rw[HF];unfold ET;rw[iN (by rw[←gy];simp),iP CF.out]
   have ab:i<l.length:=dL CF;have CO:kK u2 R A l.length c i d 0:=by rw[←HN];exact Y
   have ae:=uK R A c d l 195 (AY l PF) i u2 (fun _ _=>by kernel_rfl) bu hd ab CO (HP.only O);rw[show(if d=256 then Rs.bad i 17 else(AY l PF) (i+1))=inn d (AY l PF) i from rfl]at ae;obtain⟨r2,ai⟩:=ak (inn d (AY l PF) i);rw[←ai]at ae af;have Oe:=Hd ae;clear CO ae;go_wp2_with fail;refine Oe.mono ?_;rintro e w6 ⟨y,rfl,hy,uI,iX⟩;unfold FV.val;have YB:=Hd ((iX.block w.heap.size (lH I) (by omega)).trans I);have YO:=Hd (O.trans iX);have HY:Hid (∀g k,r2=.ok g k→y.Is (fun q=>w.heap.size<q) w6 g):=fun g k h=>(hy g k h).keep Kr (fun q _ h=>by have:=lH I;omega);have o7:=Hd uI;clear hy uI iX I O Y Oe;have I:=YB;have O:=YO;clear YB YO;obtain⟨u0,u1,u2,u3,u4,u5,eG⟩:=q6 I;have sG:=lH I;go_wp2_with fail;clear u0 eG u1 u2 u3 u4 u5;obtain⟨W0,aa⟩:=aj (((((((w6.setCell ⟨w.heap.size,0,none⟩ (.int .i64 9)).setCell ⟨w.heap.size,1,none⟩ (.int .i64 y.tn)).setCell ⟨w.heap.size,2,none⟩ (.int .i64 y.tm)).setCell ⟨w.heap.size,3,none⟩ (.string y.s)).setCell ⟨w.heap.size,4,none⟩ (.slice y.Ae y.ne y.ce)).setCell ⟨w.heap.size,5,none⟩ (.slice y.A y.n y.c)));have aS:W0.heap[w.heap.size]?=some (.cells #[.int .i64 9,.int .i64 y.tn,.int .i64 y.tm,.string y.s,.slice y.Ae y.ne y.ce,.slice y.A y.n y.c] 67 (0,0)):=by rw[aa];exact jD I
   have ao:kK W0 R A l.length c r2.at_ d r2.err:=by rw[aa];exact(jH (by omega)).trans o7
   have ar:Only (fun q=>q=R) w W0:=by rw[aa];exact o9 O (lr _)
   have ax:aR (fun q=>w.heap.size<q) w6 W0:=by rw[aa];exact mO Kr (by simp)
   rw[←aa];clear aa;refine bR (Ki (aK aS)) rfl ?_;rw[af];have hkk:=ax.alloc (.cells #[.int .i64 9,.int .i64 y.tn,.int .i64 y.tm,.string y.s,.slice y.Ae y.ne y.ce,.slice y.A y.n y.c] 67);refine⟨FV.mk 9 y.tn y.tm y.s y.Ae y.ne y.ce y.A y.n y.c,rfl,fun q' m h=>?_,?_,mP ar _⟩
   ·obtain⟨g,k,h1,h2⟩:=then_ok h;obtain⟨rfl,rfl⟩:=bH h2;exact ad1 ((HY g k h1).keep hkk (fun _ _ h=>Nat.le_of_lt h)) 9
   ·have av:kK (W0.alloc (.cells #[.int .i64 9,.int .i64 y.tn,.int .i64 y.tm,.string y.s,.slice y.Ae y.ne y.ce,.slice y.A y.n y.c] 67)) R A l.length c r2.at_ d r2.err:=ao.below ((Br _ _).alloc (lr _) _) ao.lt;cases r2<;>exact av
  ·have a6:Hid (ah l i 3 [69]=false):=by show _=_;simpa using hk
   rw[a6]at J;have qj:=Hd J;clear J hk;go_wp2_with fail
   go_region_held3 (fun w'=>w'.cell? ⟨R,0,none⟩=some (.slice A n c)∧w'.cell? ⟨R,1,none⟩=some (.int .i64 (i:Nat)))
    (first
      |(go_keep;done)
      |(go_split_ands
        refine⟨?_,?_⟩
        ·(rw[G.cell (p:=⟨R,_,none⟩) (by simp;omega)];simpa using c0)
        ·(rw[G.cell (p:=⟨R,_,none⟩) (by simp;omega)];simpa using c1))
      |fail)
    ((go_at_call 179;refine qj.mono ?_;rintro e w5 ⟨rfl,G⟩))
   have D:Below w2.heap.size w2 w5:=((Br _ _).drew).trans G;obtain⟨u2,aE⟩:=aj w5;rw[←aE]at D⊢;replace I:=kX D I;replace O:=Hd (O.trans (Ob D));replace Y:=Hd (Y.below D Y.lt);clear G D aE c0 c1 qj;have bb:=a6;have qx:=HP.only O;have J:=G_ A c i l 3 ⟨#[65]⟩ u2.drew qx.toks.ES qx.len qx.cap qx.bU (by have:=qx.len;omega);rw[show ah l i 3 (bs ⟨#[65]⟩)=ah l i 3 [65]from rfl,←HN]at J;clear qx;obtain⟨c0,c1,-⟩:=q4 Y;have b6:=Y.lt
   by_cases hk:ah l i 3 [65]=true
   ·have a7:Hid (ah l i 3 [65]=true):=hk;rw[hk]at J;have qj:=Hd J;clear J hk;go_wp2_with fail
    go_region_held3 (fun w'=>w'.cell? ⟨R,0,none⟩=some (.slice A n c)∧w'.cell? ⟨R,1,none⟩=some (.int .i64 (i:Nat)))
     (first
       |(go_keep;done)
       |(go_split_ands
         refine⟨?_,?_⟩
         ·(rw[G.cell (p:=⟨R,_,none⟩) (by simp;omega)];simpa using c0)
         ·(rw[G.cell (p:=⟨R,_,none⟩) (by simp;omega)];simpa using c1))
       |fail)
     ((go_at_call 179;refine qj.mono ?_;rintro e w5 ⟨rfl,G⟩))
    have D:Below u2.heap.size u2 w5:=((Br _ _).drew).trans G;obtain⟨u3,aF⟩:=aj w5;rw[←aF]at D⊢;replace I:=kX D I;replace O:=Hd (O.trans (Ob D));replace Y:=Hd (Y.below D Y.lt);clear G D aF c0 c1 qj;have CF:=a7;have af:Hid (F=xY R A c d l ((inn d (AY l PF) i).then fun f j=>.ok (.mk 13 f.tm f.kids) j) w):=by show _=_;rw[HF];unfold ET;rw[iN (by rw[←gy];simp),iN (by rw[bb];simp),iP CF.out]
    have ab:i<l.length:=dL CF;have CO:kK u3 R A l.length c i d 0:=by rw[←HN];exact Y
    have ae:=uK R A c d l 195 (AY l PF) i u3 (fun _ _=>by kernel_rfl) bu hd ab CO (HP.only O);rw[show(if d=256 then Rs.bad i 17 else(AY l PF) (i+1))=inn d (AY l PF) i from rfl]at ae;obtain⟨r2,ai⟩:=ak (inn d (AY l PF) i);rw[←ai]at ae af;have Oe:=Hd ae;clear CO ae;go_wp2_with fail;refine Oe.mono ?_;rintro e w6 ⟨y,rfl,hy,uI,iX⟩;unfold FV.val;have YB:=Hd ((iX.block w.heap.size (lH I) (by omega)).trans I);have YO:=Hd (O.trans iX);have HY:Hid (∀g k,r2=.ok g k→y.Is (fun q=>w.heap.size<q) w6 g):=fun g k h=>(hy g k h).keep Kr (fun q _ h=>by have:=lH I;omega);have o7:=Hd uI;clear hy uI iX I O Y Oe;have I:=YB;have O:=YO;clear YB YO;obtain⟨u0,u1,u2,u3,u4,u5,eG⟩:=q6 I;have sG:=lH I;go_wp2_with fail;clear u0 eG u1 u2 u3 u4 u5;obtain⟨W0,aa⟩:=aj (((((((w6.setCell ⟨w.heap.size,0,none⟩ (.int .i64 13)).setCell ⟨w.heap.size,1,none⟩ (.int .i64 y.tn)).setCell ⟨w.heap.size,2,none⟩ (.int .i64 y.tm)).setCell ⟨w.heap.size,3,none⟩ (.string y.s)).setCell ⟨w.heap.size,4,none⟩ (.slice y.Ae y.ne y.ce)).setCell ⟨w.heap.size,5,none⟩ (.slice y.A y.n y.c)));have aS:W0.heap[w.heap.size]?=some (.cells #[.int .i64 13,.int .i64 y.tn,.int .i64 y.tm,.string y.s,.slice y.Ae y.ne y.ce,.slice y.A y.n y.c] 67 (0,0)):=by rw[aa];exact jD I
    have ao:kK W0 R A l.length c r2.at_ d r2.err:=by rw[aa];exact(jH (by omega)).trans o7
    have ar:Only (fun q=>q=R) w W0:=by rw[aa];exact o9 O (lr _)
    have ax:aR (fun q=>w.heap.size<q) w6 W0:=by rw[aa];exact mO Kr (by simp)
    rw[←aa];clear aa;refine bR (Ki (aK aS)) rfl ?_;rw[af];have hkk:=ax.alloc (.cells #[.int .i64 13,.int .i64 y.tn,.int .i64 y.tm,.string y.s,.slice y.Ae y.ne y.ce,.slice y.A y.n y.c] 67);refine⟨FV.mk 13 y.tn y.tm y.s y.Ae y.ne y.ce y.A y.n y.c,rfl,fun q' m h=>?_,?_,mP ar _⟩
    ·obtain⟨g,k,h1,h2⟩:=then_ok h;obtain⟨rfl,rfl⟩:=bH h2;exact ad1 ((HY g k h1).keep hkk (fun _ _ h=>Nat.le_of_lt h)) 13
    ·have av:kK (W0.alloc (.cells #[.int .i64 13,.int .i64 y.tn,.int .i64 y.tm,.string y.s,.slice y.Ae y.ne y.ce,.slice y.A y.n y.c] 67)) R A l.length c r2.at_ d r2.err:=ao.below ((Br _ _).alloc (lr _) _) ao.lt;cases r2<;>exact av
   ·have a7:Hid (ah l i 3 [65]=false):=by show _=_;simpa using hk
    rw[a7]at J;have qj:=Hd J;clear J hk;go_wp2_with fail
    go_region_held3 (fun w'=>w'.cell? ⟨R,0,none⟩=some (.slice A n c)∧w'.cell? ⟨R,1,none⟩=some (.int .i64 (i:Nat)))
     (first
       |(go_keep;done)
       |(go_split_ands
         refine⟨?_,?_⟩
         ·(rw[G.cell (p:=⟨R,_,none⟩) (by simp;omega)];simpa using c0)
         ·(rw[G.cell (p:=⟨R,_,none⟩) (by simp;omega)];simpa using c1))
       |fail)
     ((go_at_call 179;refine qj.mono ?_;rintro e w5 ⟨rfl,G⟩))
    have D:Below u2.heap.size u2 w5:=((Br _ _).drew).trans G;obtain⟨u3,aF⟩:=aj w5;rw[←aF]at D⊢;replace I:=kX D I;replace O:=Hd (O.trans (Ob D));replace Y:=Hd (Y.below D Y.lt);clear G D aF c0 c1 qj;have Uc:=a7;have qx:=HP.only O;have J:=wB A c i l ⟨#[40]⟩ u3.drew qx.toks.ES qx.len qx.cap qx.bU (by have:=qx.len;omega);rw[show ah l i 4 (bs ⟨#[40]⟩)=ah l i 4 [40]from rfl,←HN]at J;clear qx;obtain⟨c0,c1,-⟩:=q4 Y;have b8:=Y.lt
    by_cases hk:ah l i 4 [40]=true
    ·have a8:Hid (ah l i 4 [40]=true):=hk;rw[hk]at J;have qj:=Hd J;clear J hk;go_wp2_with fail
     go_region_held3 (fun w'=>w'.cell? ⟨R,0,none⟩=some (.slice A n c)∧w'.cell? ⟨R,1,none⟩=some (.int .i64 (i:Nat)))
      (first
        |(go_keep;done)
        |(go_split_ands
          refine⟨?_,?_⟩
          ·(rw[G.cell (p:=⟨R,_,none⟩) (by simp;omega)];simpa using c0)
          ·(rw[G.cell (p:=⟨R,_,none⟩) (by simp;omega)];simpa using c1))
        |fail)
      ((go_at_call 151;refine qj.mono ?_;rintro e w5 ⟨rfl,G⟩))
     have D:Below u3.heap.size u3 w5:=((Br _ _).drew).trans G;obtain⟨u4,aJ⟩:=aj w5;rw[←aJ]at D⊢;replace I:=kX D I;replace O:=Hd (O.trans (Ob D));replace Y:=Hd (Y.below D Y.lt);clear G D aJ c0 c1 qj;have CF:=a8;have af:Hid (F=xY R A c d l (thenTk l (inn d PF i) 4 [41] id) w):=by show _=_;rw[HF];unfold ET;rw[iN (by rw[←gy];simp),iN (by rw[bb];simp),iN (by rw[Uc];simp),iP CF.out]
     have ab:i<l.length:=dL CF;have CO:kK u4 R A l.length c i d 0:=by rw[←HN];exact Y
     have ae:=uK R A c d l 124 PF i u4 (fun _ _=>by kernel_rfl) bP hd ab CO (HP.only O);rw[show(if d=256 then Rs.bad i 17 else PF (i+1))=inn d PF i from rfl]at ae;obtain⟨r2,ai⟩:=ak (inn d PF i);rw[←ai]at ae af;have Oe:=Hd ae;clear CO ae;go_wp2_with fail;refine Oe.mono ?_;rintro e w6 ⟨y,rfl,hy,uI,iX⟩;unfold FV.val;have YB:=Hd ((iX.block w.heap.size (lH I) (by omega)).trans I);have YO:=Hd (O.trans iX);have HY:Hid (∀g k,r2=.ok g k→y.Is (fun q=>w.heap.size<q) w6 g):=fun g k h=>(hy g k h).keep Kr (fun q _ h=>by have:=lH I;omega);have o7:=Hd uI;clear hy uI iX I O Y Oe;have I:=YB;have O:=YO;clear YB YO;obtain⟨b7,iY⟩:=aj w6.heap.size;obtain⟨w7,bh⟩:=aj (w6.alloc (.cells #[.int .i64 y.o,.int .i64 y.tn,.int .i64 y.tm,.string y.s,.slice y.Ae y.ne y.ce,.slice y.A y.n y.c] 67));have aw:=dz bh;have X7:=jZ bh iY;have YB:=kX aw I;have YO:=Hd (O.trans (Ob aw));have YY:Hid (∀g k,r2=.ok g k→y.Is (fun q=>w.heap.size<q) w7 g):=fun g k h=>(HY g k h).keep (Kb aw) (fun _ _ h=>h);have MQ:b7≠R:=by have:=o7.lt;omega
     have cc:w.heap.size<b7:=by have:=lH I;omega
     have bE:∀k e,inn d PF i=.bad k e→e≠0:=fun k e h=>by
      unfold inn at h
      by_cases gq:d=256
      ·rw[iP gq]at h;have:=jO h;omega
      ·rw[iN gq]at h;exact HZ (i+1) k e h
     have bk:∀k e,r2=.bad k e→e≠0:=fun k e h=>bE k e (by rw[←ai];exact h);obtain⟨bf,bg,bm⟩:=Pz (l:=l) (k:=4) (s:=[41]) (F:=id) bk
     have zD:Hid (r2.err=0→r2.at_≤l.length):=by
      intro h
      cases hc:r2 with
      |bad a b=>rw[hc]at h;exact absurd h (bk a b hc)
      |ok f j=>
       have h2:inn d PF i=.ok f j:=by rw[←ai];exact hc
       unfold inn at h2
       by_cases gq:d=256
       ·rw[iP gq]at h2;cases h2
       ·rw[iN gq]at h2;exact(HG (i+1) f j h2).jl
     have Y:=Hd (o7.below aw o7.lt);obtain⟨q,hq⟩:=aj (thenTk l r2 4 [41] id);rw[←hq]at bf bg bm af;obtain⟨j2,bJ⟩:=aj r2.at_;obtain⟨y2,bL⟩:=aj r2.err;rw[←bJ,←bL]at Y zD bf bg;have bn:=Hd bf;have bo:=Hd bg;have b0:=Hd bm;have b4:=Hd bh;have qM:=Hd iY;clear bJ bL bk bE hq bf bg bm bh iY aw I O HY o7;have I:=YB;have O:=YO;have HY:=YY;clear YB YO YY;have hwn:=zV R A c j2 d l y2 4 ⟨#[41]⟩ w7 Y (HP.only O) (by first|(intro _;omega)|(intro h;have:=zD h;have:=HN.out;omega));obtain⟨jw,VY⟩:=ak (jQ l (j2) (y2) 4 [41]);rw[show jQ l (j2) (y2) 4 (bs ⟨#[41]⟩)=jw from VY.symm]at hwn;have HC:=Hd hwn;clear hwn;go_wp2_with fail;rw[←b4,←qM];refine HC.mono ?_;rintro e w8 ⟨rfl,bw,az⟩;have YB:=Hd ((az.block w.heap.size (lH I) (by omega)).trans I);have YO:=Hd (O.trans az);have BF:=Hd bw;replace X7:=Hd ((az.block b7 (lH X7) MQ).trans X7);replace HY:Hid (∀f j,r2=.ok f j→y.Is (fun q=>w.heap.size<q) w8 f):=fun f j h=>(HY f j h).keep (aR.cO az (by omega)) (fun _ _ h=>h);clear HC bw az I O Y;have I:=YB;have O:=YO;have Y:=BF;clear YB YO BF;rw[←VY]at bn bo;obtain⟨u0,u1,u2,u3,u4,u5,eG⟩:=q6 I;obtain⟨v0,v1,v2,v3,v4,v5,bW⟩:=q6 X7;have sG:=lH I
     have b9:=lH X7;go_wp2_with fail;clear u0 eG u1 u2 u3 u4 u5 v0 bW v1 v2 v3 v4 v5;refine bR (Ki (jD I)) rfl ?_;rw[af];refine ou (x:=y) (r:=q) (w1:=w1) (fun f' m h=>?_) (by omega) bj (by rw[bn,bo];exact Y) O;obtain⟨g,k,h1,h2⟩:=b0 f' m h;rw[h2];exact(HY g k h1).keep Kr (fun q _ h=>by omega)
    ·have a8:Hid (ah l i 4 [40]=false):=by show _=_;simpa using hk
     rw[a8]at J;have qj:=Hd J;clear J hk;go_wp2_with fail
     go_region_held3 (fun w'=>w'.cell? ⟨R,0,none⟩=some (.slice A n c)∧w'.cell? ⟨R,1,none⟩=some (.int .i64 (i:Nat)))
      (first
        |(go_keep;done)
        |(go_split_ands
          refine⟨?_,?_⟩
          ·(rw[G.cell (p:=⟨R,_,none⟩) (by simp;omega)];simpa using c0)
          ·(rw[G.cell (p:=⟨R,_,none⟩) (by simp;omega)];simpa using c1))
        |fail)
      ((go_at_call 151;refine qj.mono ?_;rintro e w5 ⟨rfl,G⟩))
     have D:Below u3.heap.size u3 w5:=((Br _ _).drew).trans G;obtain⟨u4,aJ⟩:=aj w5;rw[←aJ]at D⊢;replace I:=kX D I;replace O:=Hd (O.trans (Ob D));replace Y:=Hd (Y.below D Y.lt);clear G D aJ c0 c1 qj;have br:=a8;have qx:=HP.only O;have J:=wB A c i l ⟨#[91]⟩ u4.drew qx.toks.ES qx.len qx.cap qx.bU (by have:=qx.len;omega);rw[show ah l i 4 (bs ⟨#[91]⟩)=ah l i 4 [91]from rfl,←HN]at J;clear qx;obtain⟨c0,c1,-⟩:=q4 Y;have MP:=Y.lt
     by_cases hk:ah l i 4 [91]=true
     ·have ba:Hid (ah l i 4 [91]=true):=hk;rw[hk]at J;have qj:=Hd J;clear J hk;go_wp2_with fail
      go_region_held3 (fun w'=>w'.cell? ⟨R,0,none⟩=some (.slice A n c)∧w'.cell? ⟨R,1,none⟩=some (.int .i64 (i:Nat)))
       (first
         |(go_keep;done)
         |(go_split_ands
           refine⟨?_,?_⟩
           ·(rw[G.cell (p:=⟨R,_,none⟩) (by simp;omega)];simpa using c0)
           ·(rw[G.cell (p:=⟨R,_,none⟩) (by simp;omega)];simpa using c1))
         |fail)
       ((go_at_call 151;refine qj.mono ?_;rintro e w5 ⟨rfl,G⟩))
      have D:Below u4.heap.size u4 w5:=((Br _ _).drew).trans G;obtain⟨u5,aP⟩:=aj w5;rw[←aP]at D⊢;replace I:=kX D I;replace O:=Hd (O.trans (Ob D));replace Y:=Hd (Y.below D Y.lt);clear G D aP c0 c1 qj;have CF:=ba;have af:Hid (F=xY R A c d l (Bz l i) w):=by show _=_;rw[HF];unfold ET;rw[iN (by rw[←gy];simp),iN (by rw[bb];simp),iN (by rw[Uc];simp),iN (by rw[br];simp),iP CF.out]
      have ab:i<l.length:=dL CF;have CO:kK u5 R A l.length c i d 0:=by rw[←HN];exact Y
      have bp:=Hd (Ye R A c d l i u5 ab CO (HP.only O));clear CO;go_wp2_with fail;refine bp.mono ?_;rintro e w6 ⟨y,rfl,hy,uI,iX⟩;unfold FV.val;have YB:=Hd ((iX.block w.heap.size (lH I) (by omega)).trans I);have YO:=Hd (O.trans iX);have b5:=lH I;have HY:=Hd hy;have o7:=Hd uI;clear hy uI iX I O Y bp;have I:=YB;have O:=YO;clear YB YO;obtain⟨u0,u1,u2,u3,u4,u5,eG⟩:=q6 I;have sG:=lH I;go_wp2_with fail;clear u0 eG u1 u2 u3 u4 u5;refine bR (Ki (jD I)) rfl ?_;rw[af];exact ou (x:=y) (w1:=u5) HY b5 bj o7 O
     ·have ba:Hid (ah l i 4 [91]=false):=by show _=_;simpa using hk
      rw[ba]at J;have qj:=Hd J;clear J hk;go_wp2_with fail
      go_region_held3 (fun w'=>w'.cell? ⟨R,0,none⟩=some (.slice A n c)∧w'.cell? ⟨R,1,none⟩=some (.int .i64 (i:Nat)))
       (first
         |(go_keep;done)
         |(go_split_ands
           refine⟨?_,?_⟩
           ·(rw[G.cell (p:=⟨R,_,none⟩) (by simp;omega)];simpa using c0)
           ·(rw[G.cell (p:=⟨R,_,none⟩) (by simp;omega)];simpa using c1))
         |fail)
       ((go_at_call 151;refine qj.mono ?_;rintro e w5 ⟨rfl,G⟩))
      have D:Below u4.heap.size u4 w5:=((Br _ _).drew).trans G;obtain⟨u5,aP⟩:=aj w5;rw[←aP]at D⊢;replace I:=kX D I;replace O:=Hd (O.trans (Ob D));replace Y:=Hd (Y.below D Y.lt);clear G D aP c0 c1 qj;have CF:=ba;have af:Hid (F=xY R A c d l (.bad i 16) w):=by show _=_;rw[HF];unfold ET;rw[iN (by rw[←gy];simp),iN (by rw[bb];simp),iN (by rw[Uc];simp),iN (by rw[br];simp),iN (by rw[CF];simp)]
      have b2:=Hd (DX R A n c i d 16 u5 Y);go_wp2_with fail;refine b2.mono ?_;rintro e w8 ⟨rfl,bz,FJ⟩;unfold FV.val FV.zero;simp only;have Y8:=Hd ((FJ.block w.heap.size (lH I) (by omega)).trans I);have b1:=Hd bz;have bZ:=Hd (O.trans FJ);have b9:=lH Y8;clear bz FJ I;obtain⟨v0,v1,v2,v3,v4,v5,bW⟩:=q6 Y8;go_wp2_with fail;clear v0 bW v1 v2 v3 v4 v5;refine bR (Ki (jD Y8)) rfl ?_;rw[af];have bC:=b1.out;rw[HN]at bC;exact CJ (r:=.bad i 16) (fun f j h=>nomatch h) bj bC bZ _ _ _ _ _ _
 ·have ag:n_ l i≠0:=by rw[←gy];exact hz
  have af:Hid (F=xY R A c d l ((inn d PU i).then fun f j=>.ok (fT op [f]) j) w):=by show _=_;rw[HF];unfold ET;rw[iP ag,gy]
  have ab:i<l.length:=(TK ag).2.1;have ch:(op != 0)=true:=by simpa using hz
  clear ag hz;have CO:kK w2 R A l.length c i d 0:=by rw[←HN];exact Y
  have ae:=uK R A c d l 177 PU i w2 (fun _ _=>by kernel_rfl) He hd ab CO (HP.only O);rw[show(if d=256 then Rs.bad i 17 else PU (i+1))=inn d PU i from rfl]at ae;obtain⟨r2,ai⟩:=ak (inn d PU i);rw[←ai]at ae af;have Oe:=Hd ae;clear CO ae;go_wp2_with fail;refine Oe.mono ?_;rintro e w6 ⟨y,rfl,hy,uI,iX⟩;unfold FV.val;have YB:=Hd ((iX.block w.heap.size (lH I) (by omega)).trans I);have YO:=Hd (O.trans iX);have HY:Hid (∀g k,r2=.ok g k→y.Is (fun q=>w.heap.size<q) w6 g):=fun g k h=>(hy g k h).keep Kr (fun q _ h=>by have:=lH I;omega);have o7:=Hd uI;clear hy uI iX I O Y Oe;have I:=YB;have O:=YO;clear YB YO;obtain⟨u0,u1,u2,u3,u4,u5,eG⟩:=q6 I;have sG:=lH I;go_wp2_with fail;clear u0 eG u1 u2 u3 u4 u5;obtain⟨W0,aa⟩:=aj (((((((w6.setCell ⟨w.heap.size,0,none⟩ (.int .i64 op)).setCell ⟨w.heap.size,1,none⟩ (.int .i64 0)).setCell ⟨w.heap.size,2,none⟩ (.int .i64 0)).setCell ⟨w.heap.size,3,none⟩ (.string ⟨#[]⟩)).setCell ⟨w.heap.size,4,none⟩ (.slice none 0 0)).setCell ⟨w.heap.size,5,none⟩ (.slice (some ⟨w6.heap.size+1,0,none⟩) 1 1)));have cb:W0.heap.size=w6.heap.size:=by rw[aa];simp
  have aS:W0.heap[w.heap.size]?=some (.cells #[.int .i64 op,.int .i64 0,.int .i64 0,.string ⟨#[]⟩,.slice none 0 0,.slice (some ⟨w6.heap.size+1,0,none⟩) 1 1] 67 (0,0)):=by rw[aa];exact jD I
  have ao:kK W0 R A l.length c r2.at_ d r2.err:=by rw[aa];exact(jH (by omega)).trans o7
  have ar:Only (fun q=>q=R) w W0:=by rw[aa];exact o9 O (lr _)
  have ax:aR (fun q=>w.heap.size<q) w6 W0:=by rw[aa];exact mO Kr (by simp)
  rw[←aa];clear aa;refine bR (Ki (aK (aK aS))) rfl ?_;rw[af];have ay:=eu (W0.alloc (.cells #[.int .i64 y.o,.int .i64 y.tn,.int .i64 y.tm,.string y.s,.slice y.Ae y.ne y.ce,.slice y.A y.n y.c] 67)) (.cells y.cells.toArray 67);rw[show(W0.alloc (.cells #[.int .i64 y.o,.int .i64 y.tn,.int .i64 y.tm,.string y.s,.slice y.Ae y.ne y.ce,.slice y.A y.n y.c] 67)).heap.size=w6.heap.size+1 from by simp[cb]]at ay;have hkk:=(ax.alloc (.cells #[.int .i64 y.o,.int .i64 y.tn,.int .i64 y.tm,.string y.s,.slice y.Ae y.ne y.ce,.slice y.A y.n y.c] 67)).alloc (.cells y.cells.toArray 67);refine aga (x:=y) (op:=op) (by omega) ay (fun q' m h=>?_) ?_ (mP (mP ar _) _)
  ·obtain⟨g,k,h1,h2⟩:=then_ok h;obtain⟨rfl,rfl⟩:=bH h2;exact⟨g,rfl,(HY g k h1).keep hkk (fun _ _ h=>Nat.le_of_lt h)⟩
  ·have av:kK ((W0.alloc (.cells #[.int .i64 y.o,.int .i64 y.tn,.int .i64 y.tm,.string y.s,.slice y.Ae y.ne y.ce,.slice y.A y.n y.c] 67)).alloc (.cells y.cells.toArray 67)) R A l.length c r2.at_ d r2.err:=(ao.below ((Br _ _).alloc (lr _) _) ao.lt).below (((Br _ _).alloc (lr _) _)) (by simp;have:=ao.lt;omega);cases r2<;>exact av
structure ad2(R:Nat)(A:Option Addr)(c d:Nat)(l:List Tok)(v:jG):Prop where
 form:FnF R A c d l 124 v.form
 unit:FnF R A c d l 177 v.unit
theorem Yr{d:Nat}{P:gK}{s:Option gK}(hs:s=if d=256 then none else some P)(i:Nat):rF s i=inn d P i:=by
 unfold rF inn;rw[hs]
 by_cases h:d=256
 ·rw[iP h,iP h]
 ·rw[iN h,iN h]
theorem ad3{l:List Tok}{d:Nat}{P:gK}{s:Option gK}(hs:s=if d=256 then none else some P)(op:Int)(i:Nat):wK l s op i=(inn d (AY l P) i).then fun f j=>.ok (.mk op f.tm f.kids) j:=by
 unfold wK inn AY;rw[hs]
 by_cases h:d=256
 ·rw[iP h,iP h];rfl
 ·rw[iN h,iN h];simp only
  by_cases h1:ah l (i+1) 4 [91]=true
  ·rw[iP h1,iP h1]
   cases h2:P (i+1+1)with
   |bad a b=>rfl
   |ok f j=>
    simp only[Rs.then_ok]
    by_cases h3:ah l j 3 [85]=true
    ·rw[iP h3,iP h3];unfold thenTk
     cases h4:P (j+1)with
     |bad a b=>rfl
     |ok g k=>
      simp only[Rs.then_ok]
      by_cases h5:ah l k 4 [93]=true
      ·rw[iP h5,iP h5];rfl
      ·rw[iN h5,iN h5];rfl
    ·rw[iN h3,iN h3];rfl
  ·rw[iN h1,iN h1];rfl
theorem ad4{l:List Tok}{d:Nat}{v:jG}{s:Option jG}(hs:s=if d=256 then none else some v):ET l d v.unit v.form=jg l s:=by
 have h1:s.map jG.form=if d=256 then none else some v.form:=by rw[hs];split<;>rfl
 have h2:s.map jG.unit=if d=256 then none else some v.unit:=by rw[hs];split<;>rfl
 funext i
 unfold ET jg;rw[Yr h2,Yr h1,ad3 h1,ad3 h1]
 rfl
theorem PE(R:Nat)(A:Option Addr)(c d:Nat)(l:List Tok)(s:Option jG)(v:jG)(hd:d≤256)(hs:s=if d=256 then none else some v)(hv:d<256→ad2 R A c (d+1) l v)(hg:QN l v)(hz:QO v):ad2 R A c d l ⟨pK l s,jg l s⟩:=by
 have G:∀v',s=some v'→v'=v:=fun v' h=>by
  rw[hs]at h
  split at h
  ·cases h
  ·cases h;rfl
 obtain⟨g1,g2⟩:=KO (l:=l) (s:=s) (fun v' h=>by rw[G v' h];exact hg);obtain⟨z1,z2⟩:=KP (s:=s) (fun v' h=>by rw[G v' h];exact hz);have Y:=Cq g1 g2;have zU:=Cr (l:=l) z1 z2;have J:=abX R A c d l v.unit v.form hd (fun h=>(hv h).unit) (fun h=>(hv h).form) hg.form hz.form;rw[ad4 hs]at J;have hand:=abU R A c d l _ (aoQ R A c d l 3 [38] _ (.inl ⟨rfl,rfl,J⟩) Y zU);have O:xV l (BA l s):=IX (by decide) (by decide) Y;have zA:vw (BA l s):=IZ zU;have I:=aoQ R A c d l 4 [124] _ (.inr ⟨rfl,rfl,hand⟩) O zA;have D:=abW R A c d l (IU l s) v.form hd I (IX (by decide) (by decide) O) (IZ zA) (fun h=>(hv h).form);have h1:s.map jG.form=if d=256 then none else some v.form:=by rw[hs];split<;>rfl
 have he:pK l s=fun i=>(IU l s i).then fun f j=>if ah l j 4 [45,62]=true then(inn d v.form j).then fun g k=>.ok (fT 5 [f,g]) k else .ok f j:=by
  funext i
  unfold pK
  congr 1
  funext f j
  rw[Yr h1]
 refine⟨?_,J⟩;rw[he];exact D
theorem aaX(R:Nat)(A:Option Addr)(c:Nat)(l:List Tok):∀r d,d+r=256→ad2 R A c d l (lJ l r)
 |0,d,h=>by
  rw[lJ];exact PE R A c d l none (lJ l 0) (by omega) (by rw[iP (by omega)]) (fun h=>by omega) (yx l 0) (yA l 0)
 |r+1,d,h=>by
  rw[lJ];exact PE R A c d l (some (lJ l r)) (lJ l r) (by omega) (by rw[iN (by omega)]) (fun _=>aaX R A c l r (d+1) (by omega)) (yx l r) (yA l r)
end Go.Proofs.YtkhoeoilamddaaaGreatDoor
