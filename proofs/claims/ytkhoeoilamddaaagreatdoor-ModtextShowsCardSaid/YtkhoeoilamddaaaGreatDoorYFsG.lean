/- Walks and plain words: FsG FsH. -/
import Derived.Test.YtkhoeoilamddaaaGreatDoorYFsF
import Derived.Test.YtkhoeoilamddaaaGreatDoorYFsD
import Derived.Test.YtkhoeoilamddaaaGreatDoorYFsE
namespace Go.Proofs.YtkhoeoilamddaaaGreatDoor
open Go.RowKit
set_option linter.unusedVariables false
set_option maxRecDepth 100000
set_option maxHeartbeats 8000000
def inn(d:Nat)(P:gK)(i:Nat):Rs Fm:=if d=256 then .bad i 17 else P (i+1)
theorem abW(R:Nat)(A:Option Addr)(c d:Nat)(l:List Tok)(P PF:gK)(hd:d≤256)(hF:FnO R A c d l 4 P)(hG:xV l P)(hZ:vw P)(hFF:d<256→FnF R A c (d+1) l 124 PF) :
 FnF R A c d l 124 (fun i=>(P i).then fun f j=>if ah l j 4 [45,62]=true then(inn d PF j).then fun g k=>.ok (fT 5 [f,g]) k else .ok f j):=by
 intro i w hi hR hP;obtain⟨w1,hw1⟩:=aj (w.alloc (.cells #[.int .i64 0,.int .i64 0,.int .i64 0,.string ⟨#[]⟩,.slice none 0 0,.slice none 0 0] 67));have hb1:=dz hw1;have hs1:w1.heap.size=w.heap.size+1:=by rw[hw1];simp
 have x1:w1.heap[w.heap.size]?=some (.cells #[.int .i64 0,.int .i64 0,.int .i64 0,.string ⟨#[]⟩,.slice none 0 0,.slice none 0 0] 67 (0,0)):=by rw[hw1];exact eu w _
 have sQ:=hR.below hb1 hR.lt;have hRl:=hR.lt;have hlen:=hP.len;have hcall:=hF i w1 hi sQ (hP.only (Ob hb1));obtain⟨r1,hr1⟩:=aj (P i);rw[←hr1]at hcall;have hmf:∀(fn:Fn)(first cap:Array Value)(w:World),(Instr.makeFunc fn first cap).run Tryz.prog w=.ok (.func fn first cap) w:=fun _ _ _ _=>rfl;obtain⟨n,hn⟩:=aj l.length;obtain⟨F,vU⟩:=aj (xY R A c d l ((P i).then fun f j=>if ah l j 4 [45,62]=true then(inn d PF j).then fun g k=>.ok (fT 5 [f,g]) k else .ok f j) w);show Calls _ _ _ _ (xY R A c d l ((P i).then fun f j=>if ah l j 4 [45,62]=true then(inn d PF j).then fun g k=>.ok (fT 5 [f,g]) k else .ok f j) w);rw[←vU];rw[←hr1]at vU;have QU:Hid (∀f j,r1=.ok f j→VP l i f j):=fun f j h=>hG i f j (by rw[←hr1];exact h);have HZ1:Hid (∀j e,r1=.bad j e→e≠0):=fun j e h=>hZ i j e (by rw[←hr1];exact h);have HC:=Hd hcall;have HF:=Hd vU;have HFF:=Hd hFF;have HP:=Hd hP;have HN:=Hd hn;have HW1:=Hd hw1;have HO:Hid (Only (fun q=>q=R) w w1):=Ob hb1;have XB:=Hd x1;rw[←hn]at hi hlen;clear vU hw1 hb1 hR sQ hF hP x1 hcall hr1 hG hZ hn hFF;go_in;go_wp2_with fail;rw[←HW1];refine HC.mono ?_;rintro e w2 ⟨x,rfl,hx,hR2,ho2⟩;unfold FV.val;obtain⟨b7,iY⟩:=aj w2.heap.size
 obtain⟨w3,hw3⟩:=aj (w2.alloc (.cells #[.int .i64 x.o,.int .i64 x.tn,.int .i64 x.tm,.string x.s,.slice x.Ae x.ne x.ce,.slice x.A x.n x.c] 67));have hal:=dz hw3;have X7:=jZ hw3 iY;have hlb:=lL (lH XB) ho2.size;have MQ:b7≠R:=by have:=hR2.lt;omega
 have adV:w.heap.size<b7:=by omega
 have YB:=Hd ((hal.block w.heap.size hlb).trans ((ho2.block w.heap.size (lH XB) (by omega)).trans XB));have HIX:Hid (∀f j,r1=.ok f j→x.Is (fun q=>w.heap.size<q∧q≠b7) w3 f):=fun f j h=>((hx f j h).keep (S':=fun q=>w.heap.size<q∧q≠b7) Kr (fun q hq h=>by have:=lH XB;omega)).keep (Kb hal) (fun _ _ h=>h);have dQ:=Hd (hR2.below hal hR2.lt);have YO:=Hd (HO.trans (ho2.trans (Ob hal)));have Ao:=Hd hw3;have qM:=Hd iY;clear hx hR2 ho2 hal hw3 iY HC XB HO;have XB:=YB;have HO:=YO;clear YB YO
 rcases r1 with⟨jb,eb⟩|⟨f,j⟩
 ·have hx:=HZ1 jb eb rfl;have hxb:(eb==0)=false:=by simpa using hx
  have HRR:Hid (F=xY R A c d l (.bad jb eb) w):=HF;obtain⟨c0,c1,-,c3,-⟩:=q4 (show kK w3 R A l.length c jb d eb from dQ);have hrl:=dQ.lt;clear hx;go_wp2_with fail;rw[←Ao,←qM];try go_wp2_with fail
  go_quiet (fail)
  obtain⟨v0,v1,v2,v3,v4,v5,bW⟩:=q6 X7;obtain⟨u0,u1,u2,u3,u4,u5,eG⟩:=q6 XB;have hvl:=lH X7;have sG:=lH XB;clear c0 c1 c3;go_wp2_with fail;clear v0 bW v1 v2 v3 v4 v5 u0 eG u1 u2 u3 u4 u5;refine bR (Ki (jD (W:=w3.drewN nq) XB)) rfl ?_;rw[HRR];exact ou (x:=x) (r:=.bad jb eb) (w1:=w1) (fun f j h=>nomatch h) (by omega) hRl dQ (HO.drewN nq)
 ·have hjl:=(QU f j rfl).jl;rw[←HN]at hjl;have HI:=Hd (HIX f j rfl);have hrd:kK w3 R A n c j d 0:=by rw[HN];exact dQ
  obtain⟨c0,c1,-,c3,-⟩:=q4 hrd;have hrl:=hrd.lt;have qx:=HP.only HO;have hcap:=qx.cap;have aQ:=qx.bU;unfold maxLen at aQ;rw[←HN]at hcap;have hsg:=wB A c j l ⟨#[45,62]⟩ w3.drew qx.toks.ES qx.len qx.cap qx.bU (by omega);rw[←HN,show ah l j 4 (bs ⟨#[45,62]⟩)=ah l j 4 [45,62]from rfl]at hsg;have bE:Hid (F=xY R A c d l (if ah l j 4 [45,62]=true then(inn d PF j).then fun g k=>.ok (fT 5 [f,g]) k else .ok f j) w):=HF;clear dQ HIX qx;have dQ:=Hd hrd;clear hrd
  by_cases hk:ah l j 4 [45,62]=true
  ·have HRR:Hid (F=xY R A c d l ((inn d PF j).then fun g k=>.ok (fT 5 [f,g]) k) w):=by show _=_;rw[bE,iP hk]
   have hjlt:=dL hk;rw[hk]at hsg;have qj:=Hd hsg;clear hsg hk;go_wp2_with fail;rw[←Ao,←qM];try go_wp2_with fail
   go_region_held3 (fun w'=>w'.cell? ⟨R,0,none⟩=some (.slice A n c)∧w'.cell? ⟨R,1,none⟩=some (.int .i64 (j:Nat))∧w'.cell? ⟨R,3,none⟩=some (.int .i64 0))
    (first
      |(go_keep;done)
      |(go_split_ands
        refine⟨?_,?_,?_⟩
        ·(rw[hb5.cell (p:=⟨R,_,none⟩) (by simp;omega)];simpa using c0)
        ·(rw[hb5.cell (p:=⟨R,_,none⟩) (by simp;omega)];simpa using c1)
        ·(rw[hb5.cell (p:=⟨R,_,none⟩) (by simp;omega)];simpa using c3))
      |fail)
    ((go_at_call 151;refine qj.mono ?_;rintro e w5 ⟨rfl,hb5⟩))
   have hb6:Below w3.heap.size w3 w5:=((Br _ _).drew).trans hb5;replace XB:=kX hb6 XB;replace X7:=kX hb6 X7;replace HO:=Hd (HO.trans (Ob hb6));replace dQ:=Hd (dQ.below hb6 hrl);replace HI:Hid (x.Is (fun q=>w.heap.size<q∧q≠b7) w5 f):=HI.keep (Kb hb6) (fun _ _ h=>h);clear hb5 hb6 c0 c1 c3 qj;have CO:kK w5 R A l.length c j d 0:=by rw[←HN];exact dQ
   have hwi:=uK R A c d l 124 PF j w5 (fun _ _=>by kernel_rfl) HFF hd hjlt CO (HP.only HO);rw[show(if d=256 then Rs.bad j 17 else PF (j+1))=inn d PF j from rfl]at hwi;obtain⟨r2,hr2⟩:=aj (inn d PF j);rw[←hr2]at hwi HRR;have Oe:=Hd hwi;clear CO hwi hr2;go_wp2_with fail;refine Oe.mono ?_;rintro e w6 ⟨y,rfl,hy,uI,iX⟩;unfold FV.val;have Y7:=Hd ((iX.block b7 (lH X7) MQ).trans X7);have YB:=Hd ((iX.block w.heap.size (lH XB) (by omega)).trans XB);have YO:=Hd (HO.trans iX);have YI:Hid (x.Is (fun q=>w.heap.size<q∧q≠b7) w6 f):=HI.keep (aR.cO iX (by omega)) (fun _ _ h=>h);have HY:Hid (∀g k,r2=.ok g k→y.Is (fun q=>w.heap.size<q∧q≠b7) w6 g):=fun g k h=>(hy g k h).keep Kr (fun q _ h=>by have:=lH X7;omega);have o7:=Hd uI;clear hy uI iX XB X7 HO HI dQ Oe;have XB:=YB;have X7:=Y7;have HO:=YO;have HI:=YI;clear YB Y7 YO YI;obtain⟨v0,v1,v2,v3,v4,v5,bW⟩:=q6 X7;obtain⟨u0,u1,u2,u3,u4,u5,eG⟩:=q6 XB;have hvl:=lH X7;have sG:=lH XB;go_wp2_with fail;clear v0 bW v1 v2 v3 v4 v5 u0 eG u1 u2 u3 u4 u5
   obtain⟨W0,hW0⟩:=aj (((((((((((((w6.setCell ⟨b7,0,none⟩ (.int .i64 5)).setCell ⟨b7,1,none⟩ (.int .i64 0)).setCell ⟨b7,2,none⟩ (.int .i64 0)).setCell ⟨b7,3,none⟩ (.string ⟨#[]⟩)).setCell ⟨b7,4,none⟩ (.slice none 0 0)).setCell ⟨b7,5,none⟩ (.slice (some ⟨w6.heap.size+1,0,none⟩) 2 2)).setCell ⟨w.heap.size,0,none⟩ (.int .i64 5)).setCell ⟨w.heap.size,1,none⟩ (.int .i64 0)).setCell ⟨w.heap.size,2,none⟩ (.int .i64 0)).setCell ⟨w.heap.size,3,none⟩ (.string ⟨#[]⟩)).setCell ⟨w.heap.size,4,none⟩ (.slice none 0 0)).setCell ⟨w.heap.size,5,none⟩ (.slice (some ⟨w6.heap.size+1,0,none⟩) 2 2)));have hz0:W0.heap.size=w6.heap.size:=by rw[hW0];simp
   have xb0:W0.heap[w.heap.size]?=some (.cells #[.int .i64 5,.int .i64 0,.int .i64 0,.string ⟨#[]⟩,.slice none 0 0,.slice (some ⟨w6.heap.size+1,0,none⟩) 2 2] 67 (0,0)):=by rw[hW0];exact jD ((jH (by omega)).trans XB)
   have hR0:kK W0 R A l.length c r2.at_ d r2.err:=by rw[hW0];exact(jH (by omega)).trans ((jH (by omega)).trans o7)
   have hO0:Only (fun q=>q=R) w W0:=by rw[hW0];exact o9 (o9 HO (by omega)) (lr _)
   have hk0:aR (fun q=>w.heap.size<q∧q≠b7) w6 W0:=by rw[hW0];exact mO (mO Kr (by simp)) (by simp)
   rw[←hW0];clear hW0;refine bR (Ki (aK (aK xb0))) rfl ?_;rw[HRR];have hnew:=eu (W0.alloc (.cells #[.int .i64 y.o,.int .i64 y.tn,.int .i64 y.tm,.string y.s,.slice y.Ae y.ne y.ce,.slice y.A y.n y.c] 67)) (.cells (x.cells++y.cells).toArray 67);rw[show(W0.alloc (.cells #[.int .i64 y.o,.int .i64 y.tn,.int .i64 y.tm,.string y.s,.slice y.Ae y.ne y.ce,.slice y.A y.n y.c] 67)).heap.size=w6.heap.size+1 from by simp[hz0]]at hnew;have hkk:=(hk0.alloc (.cells #[.int .i64 y.o,.int .i64 y.tn,.int .i64 y.tm,.string y.s,.slice y.Ae y.ne y.ce,.slice y.A y.n y.c] 67)).alloc (.cells (x.cells++y.cells).toArray 67);refine aaU (x:=x) (y:=y) (op:=5) (by omega) hnew (fun q' m h=>?_) ?_ (mP (mP hO0 _) _)
   ·obtain⟨g,k,h1,h2⟩:=then_ok h;obtain⟨rfl,rfl⟩:=bH h2;exact⟨f,g,rfl,HI.keep hkk (fun _ _ h=>Nat.le_of_lt h.1),(HY g k h1).keep hkk (fun _ _ h=>Nat.le_of_lt h.1)⟩
   ·have hRF:kK ((W0.alloc (.cells #[.int .i64 y.o,.int .i64 y.tn,.int .i64 y.tm,.string y.s,.slice y.Ae y.ne y.ce,.slice y.A y.n y.c] 67)).alloc (.cells (x.cells++y.cells).toArray 67)) R A l.length c r2.at_ d r2.err:=(hR0.below ((Br _ _).alloc (lr _) _) hR0.lt).below (((Br _ _).alloc (lr _) _)) (by simp;have:=hR0.lt;omega);cases r2<;>exact hRF
  ·have sF:ah l j 4 [45,62]=false:=by simpa using hk
   have HRR:Hid (F=xY R A c d l (.ok f j) w):=by show _=_;rw[bE,iN hk]
   rw[sF]at hsg;have qj:=Hd hsg;clear hsg hk sF;go_wp2_with fail;rw[←Ao,←qM];try go_wp2_with fail
   go_region_held3 (fun w'=>w'.cell? ⟨R,0,none⟩=some (.slice A n c)∧w'.cell? ⟨R,1,none⟩=some (.int .i64 (j:Nat))∧w'.cell? ⟨R,3,none⟩=some (.int .i64 0))
    (first
      |(go_keep;done)
      |(go_split_ands
        refine⟨?_,?_,?_⟩
        ·(rw[hb5.cell (p:=⟨R,_,none⟩) (by simp;omega)];simpa using c0)
        ·(rw[hb5.cell (p:=⟨R,_,none⟩) (by simp;omega)];simpa using c1)
        ·(rw[hb5.cell (p:=⟨R,_,none⟩) (by simp;omega)];simpa using c3))
      |fail)
    ((go_at_call 151;refine qj.mono ?_;rintro e w5 ⟨rfl,hb5⟩))
   have hb6:Below w3.heap.size w3 w5:=((Br _ _).drew).trans hb5;replace XB:=kX hb6 XB;replace X7:=kX hb6 X7;replace HO:=Hd (HO.trans (Ob hb6));replace dQ:=Hd (dQ.below hb6 hrl);replace HI:Hid (x.Is (fun q=>w.heap.size<q∧q≠b7) w5 f):=HI.keep (Kb hb6) (fun _ _ h=>h);clear hb5 hb6 c0 c1 c3 qj;obtain⟨v0,v1,v2,v3,v4,v5,bW⟩:=q6 X7;obtain⟨u0,u1,u2,u3,u4,u5,eG⟩:=q6 XB;have hvl:=lH X7;have sG:=lH XB;go_wp2_with fail;clear v0 bW v1 v2 v3 v4 v5 u0 eG u1 u2 u3 u4 u5;refine bR (Ki (jD XB)) rfl ?_;rw[HRR];have hRf:=dQ.out;rw[HN]at hRf
   exact ou (x:=x) (r:=.ok f j) (w1:=w1) (fun f' j' h=>by
    obtain⟨rfl,rfl⟩:=bH h
    exact HI.keep Kr (fun q _ h=>by have:=h.1;omega)) (by omega) hRl hRf HO
set_option maxHeartbeats 16000000
theorem ad1{S:Nat→Prop}{w:World}{x:FV}{f:Fm}(h:x.Is S w f)(op:Int):(FV.mk op x.tn x.tm x.s x.Ae x.ne x.ce x.A x.n x.c).Is S w (.mk op f.tm f.kids):=⟨rfl,h.tn,h.tm,h.s,h.ne,h.n,h.v.tm,h.v.cap,h.v.bU,h.v.kids⟩
def ET(l:List Tok)(d:Nat)(PU PF:gK):gK:=fun i=>
 if n_ l i≠0 then(inn d PU i).then fun f j=>.ok (fT (n_ l i) [f]) j
 else if ah l i 3 [69]=true then(inn d (AY l PF) i).then fun f j=>.ok (.mk 9 f.tm f.kids) j
 else if ah l i 3 [65]=true then(inn d (AY l PF) i).then fun f j=>.ok (.mk 13 f.tm f.kids) j
 else if ah l i 4 [40]=true then thenTk l (inn d PF i) 4 [41] id
 else if ah l i 4 [91]=true then Bz l i
 else .bad i 16
theorem abX(R:Nat)(A:Option Addr)(c d:Nat)(l:List Tok)(PU PF:gK)(hd:d≤256)(hFU:d<256→FnF R A c (d+1) l 177 PU)(hFF:d<256→FnF R A c (d+1) l 124 PF)(hG:xV l PF)(hZ:vw PF) :
 FnF R A c d l 177 (ET l d PU PF):=by
 intro i w hi hR hP;obtain⟨w1,hw1⟩:=aj (w.alloc (.cells #[.int .i64 0,.int .i64 0,.int .i64 0,.string ⟨#[]⟩,.slice none 0 0,.slice none 0 0] 67));have hb1:=dz hw1;have hs1:w1.heap.size=w.heap.size+1:=by rw[hw1];simp
 have x1:w1.heap[w.heap.size]?=some (.cells #[.int .i64 0,.int .i64 0,.int .i64 0,.string ⟨#[]⟩,.slice none 0 0,.slice none 0 0] 67 (0,0)):=by rw[hw1];exact eu w _
 have sQ:=hR.below hb1 hR.lt;have hRl:=hR.lt;have hlen:=hP.len;have hmf:∀(fn:Fn)(first cap:Array Value)(w:World),(Instr.makeFunc fn first cap).run Tryz.prog w=.ok (.func fn first cap) w:=fun _ _ _ _=>rfl;obtain⟨n,hn⟩:=aj l.length;have hone:=adS R A c i d l w1 sQ (hP.only (Ob hb1)) (by omega);obtain⟨op,gy⟩:=ak (n_ l i);rw[←gy]at hone;obtain⟨F,HF⟩:=ak (xY R A c d l (ET l d PU PF i) w);rw[←HF];have HUN:Hid (d<256→FnF R A c (d+1) l 195 (AY l PF)):=fun h=>XM R A c (d+1) l PF (hFF h) hG hZ;have HC:=Hd hone;have He:=Hd hFU;have HFF:=Hd hFF;have HG:=Hd hG;have HZ:=Hd hZ;have HP:=Hd hP;have HN:=Hd hn;have HW1:=Hd hw1;have dQ:Hid (kK w1 R A n c i d 0):=by show kK _ _ _ _ _ _ _ _;rw[hn];exact sQ
 have HO:Hid (Only (fun q=>q=R) w w1):=Ob hb1;have XB:=Hd x1;have hcap:=hP.cap;have aQ:=hP.bU;unfold maxLen at aQ;rw[←hn]at hi hlen hcap;clear hw1 hb1 hR sQ hP x1 hone hG hZ hn hFU hFF;go_in;go_wp2_with fail;rw[←HW1];refine HC.mono ?_;rintro e w2 ⟨rfl,hb2⟩;replace XB:=kX hb2 XB;replace HO:=Hd (HO.trans (Ob hb2));replace dQ:=Hd (dQ.below hb2 dQ.lt);clear hb2 HC
 by_cases hz:op=0
 ·subst hz;have qx:=HP.only HO;have hsg:=G_ A c i l 3 ⟨#[69]⟩ w2.drew qx.toks.ES qx.len qx.cap qx.bU (by have:=qx.len;omega);rw[show ah l i 3 (bs ⟨#[69]⟩)=ah l i 3 [69]from rfl,←HN]at hsg;clear qx;obtain⟨c0,c1,-⟩:=q4 dQ;have al0:=dQ.lt
  by_cases hk:ah l i 3 [69]=true
  ·have HT1:Hid (ah l i 3 [69]=true):=hk;rw[hk]at hsg;have qj:=Hd hsg;clear hsg hk;go_wp2_with fail
   go_region_held3 (fun w'=>w'.cell? ⟨R,0,none⟩=some (.slice A n c)∧w'.cell? ⟨R,1,none⟩=some (.int .i64 (i:Nat)))
    (first
      |(go_keep;done)
      |(go_split_ands
        refine⟨?_,?_⟩
        ·(rw[hb5.cell (p:=⟨R,_,none⟩) (by simp;omega)];simpa using c0)
        ·(rw[hb5.cell (p:=⟨R,_,none⟩) (by simp;omega)];simpa using c1))
      |fail)
    ((go_at_call 179;refine qj.mono ?_;rintro e w5 ⟨rfl,hb5⟩))
   have hb6:Below w2.heap.size w2 w5:=((Br _ _).drew).trans hb5;obtain⟨u2,hu2⟩:=aj w5;rw[←hu2]at hb6⊢;replace XB:=kX hb6 XB;replace HO:=Hd (HO.trans (Ob hb6));replace dQ:=Hd (dQ.below hb6 dQ.lt);clear hb5 hb6 hu2 c0 c1 qj;have CF:=HT1;have HRR:Hid (F=xY R A c d l ((inn d (AY l PF) i).then fun f j=>.ok (.mk 9 f.tm f.kids) j) w):=by show _=_;rw[HF];unfold ET;rw[iN (by rw[←gy];simp),iP CF.out]
   have hilt:i<l.length:=dL CF;have CO:kK u2 R A l.length c i d 0:=by rw[←HN];exact dQ
   have hwi:=uK R A c d l 195 (AY l PF) i u2 (fun _ _=>by kernel_rfl) HUN hd hilt CO (HP.only HO);rw[show(if d=256 then Rs.bad i 17 else(AY l PF) (i+1))=inn d (AY l PF) i from rfl]at hwi;obtain⟨r2,HR2⟩:=ak (inn d (AY l PF) i);rw[←HR2]at hwi HRR;have Oe:=Hd hwi;clear CO hwi;go_wp2_with fail;refine Oe.mono ?_;rintro e w6 ⟨y,rfl,hy,uI,iX⟩;unfold FV.val;have YB:=Hd ((iX.block w.heap.size (lH XB) (by omega)).trans XB);have YO:=Hd (HO.trans iX);have HY:Hid (∀g k,r2=.ok g k→y.Is (fun q=>w.heap.size<q) w6 g):=fun g k h=>(hy g k h).keep Kr (fun q _ h=>by have:=lH XB;omega);have o7:=Hd uI;clear hy uI iX XB HO dQ Oe;have XB:=YB;have HO:=YO;clear YB YO;obtain⟨u0,u1,u2,u3,u4,u5,eG⟩:=q6 XB;have sG:=lH XB;go_wp2_with fail;clear u0 eG u1 u2 u3 u4 u5;obtain⟨W0,hW0⟩:=aj (((((((w6.setCell ⟨w.heap.size,0,none⟩ (.int .i64 9)).setCell ⟨w.heap.size,1,none⟩ (.int .i64 y.tn)).setCell ⟨w.heap.size,2,none⟩ (.int .i64 y.tm)).setCell ⟨w.heap.size,3,none⟩ (.string y.s)).setCell ⟨w.heap.size,4,none⟩ (.slice y.Ae y.ne y.ce)).setCell ⟨w.heap.size,5,none⟩ (.slice y.A y.n y.c)));have xb0:W0.heap[w.heap.size]?=some (.cells #[.int .i64 9,.int .i64 y.tn,.int .i64 y.tm,.string y.s,.slice y.Ae y.ne y.ce,.slice y.A y.n y.c] 67 (0,0)):=by rw[hW0];exact jD XB
   have hR0:kK W0 R A l.length c r2.at_ d r2.err:=by rw[hW0];exact(jH (by omega)).trans o7
   have hO0:Only (fun q=>q=R) w W0:=by rw[hW0];exact o9 HO (lr _)
   have hk0:aR (fun q=>w.heap.size<q) w6 W0:=by rw[hW0];exact mO Kr (by simp)
   rw[←hW0];clear hW0;refine bR (Ki (aK xb0)) rfl ?_;rw[HRR];have hkk:=hk0.alloc (.cells #[.int .i64 9,.int .i64 y.tn,.int .i64 y.tm,.string y.s,.slice y.Ae y.ne y.ce,.slice y.A y.n y.c] 67);refine⟨FV.mk 9 y.tn y.tm y.s y.Ae y.ne y.ce y.A y.n y.c,rfl,fun q' m h=>?_,?_,mP hO0 _⟩
   ·obtain⟨g,k,h1,h2⟩:=then_ok h;obtain⟨rfl,rfl⟩:=bH h2;exact ad1 ((HY g k h1).keep hkk (fun _ _ h=>Nat.le_of_lt h)) 9
   ·have hRF:kK (W0.alloc (.cells #[.int .i64 9,.int .i64 y.tn,.int .i64 y.tm,.string y.s,.slice y.Ae y.ne y.ce,.slice y.A y.n y.c] 67)) R A l.length c r2.at_ d r2.err:=hR0.below ((Br _ _).alloc (lr _) _) hR0.lt;cases r2<;>exact hRF
  ·have HT1:Hid (ah l i 3 [69]=false):=by show _=_;simpa using hk
   rw[HT1]at hsg;have qj:=Hd hsg;clear hsg hk;go_wp2_with fail
   go_region_held3 (fun w'=>w'.cell? ⟨R,0,none⟩=some (.slice A n c)∧w'.cell? ⟨R,1,none⟩=some (.int .i64 (i:Nat)))
    (first
      |(go_keep;done)
      |(go_split_ands
        refine⟨?_,?_⟩
        ·(rw[hb5.cell (p:=⟨R,_,none⟩) (by simp;omega)];simpa using c0)
        ·(rw[hb5.cell (p:=⟨R,_,none⟩) (by simp;omega)];simpa using c1))
      |fail)
    ((go_at_call 179;refine qj.mono ?_;rintro e w5 ⟨rfl,hb5⟩))
   have hb6:Below w2.heap.size w2 w5:=((Br _ _).drew).trans hb5;obtain⟨u2,hu2⟩:=aj w5;rw[←hu2]at hb6⊢;replace XB:=kX hb6 XB;replace HO:=Hd (HO.trans (Ob hb6));replace dQ:=Hd (dQ.below hb6 dQ.lt);clear hb5 hb6 hu2 c0 c1 qj;have HTE:=HT1;have qx:=HP.only HO;have hsg:=G_ A c i l 3 ⟨#[65]⟩ u2.drew qx.toks.ES qx.len qx.cap qx.bU (by have:=qx.len;omega);rw[show ah l i 3 (bs ⟨#[65]⟩)=ah l i 3 [65]from rfl,←HN]at hsg;clear qx;obtain⟨c0,c1,-⟩:=q4 dQ;have hrl2:=dQ.lt
   by_cases hk:ah l i 3 [65]=true
   ·have HT2:Hid (ah l i 3 [65]=true):=hk;rw[hk]at hsg;have qj:=Hd hsg;clear hsg hk;go_wp2_with fail
    go_region_held3 (fun w'=>w'.cell? ⟨R,0,none⟩=some (.slice A n c)∧w'.cell? ⟨R,1,none⟩=some (.int .i64 (i:Nat)))
     (first
       |(go_keep;done)
       |(go_split_ands
         refine⟨?_,?_⟩
         ·(rw[hb5.cell (p:=⟨R,_,none⟩) (by simp;omega)];simpa using c0)
         ·(rw[hb5.cell (p:=⟨R,_,none⟩) (by simp;omega)];simpa using c1))
       |fail)
     ((go_at_call 179;refine qj.mono ?_;rintro e w5 ⟨rfl,hb5⟩))
    have hb6:Below u2.heap.size u2 w5:=((Br _ _).drew).trans hb5;obtain⟨u3,hu3⟩:=aj w5;rw[←hu3]at hb6⊢;replace XB:=kX hb6 XB;replace HO:=Hd (HO.trans (Ob hb6));replace dQ:=Hd (dQ.below hb6 dQ.lt);clear hb5 hb6 hu3 c0 c1 qj;have CF:=HT2;have HRR:Hid (F=xY R A c d l ((inn d (AY l PF) i).then fun f j=>.ok (.mk 13 f.tm f.kids) j) w):=by show _=_;rw[HF];unfold ET;rw[iN (by rw[←gy];simp),iN (by rw[HTE];simp),iP CF.out]
    have hilt:i<l.length:=dL CF;have CO:kK u3 R A l.length c i d 0:=by rw[←HN];exact dQ
    have hwi:=uK R A c d l 195 (AY l PF) i u3 (fun _ _=>by kernel_rfl) HUN hd hilt CO (HP.only HO);rw[show(if d=256 then Rs.bad i 17 else(AY l PF) (i+1))=inn d (AY l PF) i from rfl]at hwi;obtain⟨r2,HR2⟩:=ak (inn d (AY l PF) i);rw[←HR2]at hwi HRR;have Oe:=Hd hwi;clear CO hwi;go_wp2_with fail;refine Oe.mono ?_;rintro e w6 ⟨y,rfl,hy,uI,iX⟩;unfold FV.val;have YB:=Hd ((iX.block w.heap.size (lH XB) (by omega)).trans XB);have YO:=Hd (HO.trans iX);have HY:Hid (∀g k,r2=.ok g k→y.Is (fun q=>w.heap.size<q) w6 g):=fun g k h=>(hy g k h).keep Kr (fun q _ h=>by have:=lH XB;omega);have o7:=Hd uI;clear hy uI iX XB HO dQ Oe;have XB:=YB;have HO:=YO;clear YB YO;obtain⟨u0,u1,u2,u3,u4,u5,eG⟩:=q6 XB;have sG:=lH XB;go_wp2_with fail;clear u0 eG u1 u2 u3 u4 u5;obtain⟨W0,hW0⟩:=aj (((((((w6.setCell ⟨w.heap.size,0,none⟩ (.int .i64 13)).setCell ⟨w.heap.size,1,none⟩ (.int .i64 y.tn)).setCell ⟨w.heap.size,2,none⟩ (.int .i64 y.tm)).setCell ⟨w.heap.size,3,none⟩ (.string y.s)).setCell ⟨w.heap.size,4,none⟩ (.slice y.Ae y.ne y.ce)).setCell ⟨w.heap.size,5,none⟩ (.slice y.A y.n y.c)));have xb0:W0.heap[w.heap.size]?=some (.cells #[.int .i64 13,.int .i64 y.tn,.int .i64 y.tm,.string y.s,.slice y.Ae y.ne y.ce,.slice y.A y.n y.c] 67 (0,0)):=by rw[hW0];exact jD XB
    have hR0:kK W0 R A l.length c r2.at_ d r2.err:=by rw[hW0];exact(jH (by omega)).trans o7
    have hO0:Only (fun q=>q=R) w W0:=by rw[hW0];exact o9 HO (lr _)
    have hk0:aR (fun q=>w.heap.size<q) w6 W0:=by rw[hW0];exact mO Kr (by simp)
    rw[←hW0];clear hW0;refine bR (Ki (aK xb0)) rfl ?_;rw[HRR];have hkk:=hk0.alloc (.cells #[.int .i64 13,.int .i64 y.tn,.int .i64 y.tm,.string y.s,.slice y.Ae y.ne y.ce,.slice y.A y.n y.c] 67);refine⟨FV.mk 13 y.tn y.tm y.s y.Ae y.ne y.ce y.A y.n y.c,rfl,fun q' m h=>?_,?_,mP hO0 _⟩
    ·obtain⟨g,k,h1,h2⟩:=then_ok h;obtain⟨rfl,rfl⟩:=bH h2;exact ad1 ((HY g k h1).keep hkk (fun _ _ h=>Nat.le_of_lt h)) 13
    ·have hRF:kK (W0.alloc (.cells #[.int .i64 13,.int .i64 y.tn,.int .i64 y.tm,.string y.s,.slice y.Ae y.ne y.ce,.slice y.A y.n y.c] 67)) R A l.length c r2.at_ d r2.err:=hR0.below ((Br _ _).alloc (lr _) _) hR0.lt;cases r2<;>exact hRF
   ·have HT2:Hid (ah l i 3 [65]=false):=by show _=_;simpa using hk
    rw[HT2]at hsg;have qj:=Hd hsg;clear hsg hk;go_wp2_with fail
    go_region_held3 (fun w'=>w'.cell? ⟨R,0,none⟩=some (.slice A n c)∧w'.cell? ⟨R,1,none⟩=some (.int .i64 (i:Nat)))
     (first
       |(go_keep;done)
       |(go_split_ands
         refine⟨?_,?_⟩
         ·(rw[hb5.cell (p:=⟨R,_,none⟩) (by simp;omega)];simpa using c0)
         ·(rw[hb5.cell (p:=⟨R,_,none⟩) (by simp;omega)];simpa using c1))
       |fail)
     ((go_at_call 179;refine qj.mono ?_;rintro e w5 ⟨rfl,hb5⟩))
    have hb6:Below u2.heap.size u2 w5:=((Br _ _).drew).trans hb5;obtain⟨u3,hu3⟩:=aj w5;rw[←hu3]at hb6⊢;replace XB:=kX hb6 XB;replace HO:=Hd (HO.trans (Ob hb6));replace dQ:=Hd (dQ.below hb6 dQ.lt);clear hb5 hb6 hu3 c0 c1 qj;have Uc:=HT2;have qx:=HP.only HO;have hsg:=wB A c i l ⟨#[40]⟩ u3.drew qx.toks.ES qx.len qx.cap qx.bU (by have:=qx.len;omega);rw[show ah l i 4 (bs ⟨#[40]⟩)=ah l i 4 [40]from rfl,←HN]at hsg;clear qx;obtain⟨c0,c1,-⟩:=q4 dQ;have hrl3:=dQ.lt
    by_cases hk:ah l i 4 [40]=true
    ·have HT3:Hid (ah l i 4 [40]=true):=hk;rw[hk]at hsg;have qj:=Hd hsg;clear hsg hk;go_wp2_with fail
     go_region_held3 (fun w'=>w'.cell? ⟨R,0,none⟩=some (.slice A n c)∧w'.cell? ⟨R,1,none⟩=some (.int .i64 (i:Nat)))
      (first
        |(go_keep;done)
        |(go_split_ands
          refine⟨?_,?_⟩
          ·(rw[hb5.cell (p:=⟨R,_,none⟩) (by simp;omega)];simpa using c0)
          ·(rw[hb5.cell (p:=⟨R,_,none⟩) (by simp;omega)];simpa using c1))
        |fail)
      ((go_at_call 151;refine qj.mono ?_;rintro e w5 ⟨rfl,hb5⟩))
     have hb6:Below u3.heap.size u3 w5:=((Br _ _).drew).trans hb5;obtain⟨u4,hu4⟩:=aj w5;rw[←hu4]at hb6⊢;replace XB:=kX hb6 XB;replace HO:=Hd (HO.trans (Ob hb6));replace dQ:=Hd (dQ.below hb6 dQ.lt);clear hb5 hb6 hu4 c0 c1 qj;have CF:=HT3;have HRR:Hid (F=xY R A c d l (thenTk l (inn d PF i) 4 [41] id) w):=by show _=_;rw[HF];unfold ET;rw[iN (by rw[←gy];simp),iN (by rw[HTE];simp),iN (by rw[Uc];simp),iP CF.out]
     have hilt:i<l.length:=dL CF;have CO:kK u4 R A l.length c i d 0:=by rw[←HN];exact dQ
     have hwi:=uK R A c d l 124 PF i u4 (fun _ _=>by kernel_rfl) HFF hd hilt CO (HP.only HO);rw[show(if d=256 then Rs.bad i 17 else PF (i+1))=inn d PF i from rfl]at hwi;obtain⟨r2,HR2⟩:=ak (inn d PF i);rw[←HR2]at hwi HRR;have Oe:=Hd hwi;clear CO hwi;go_wp2_with fail;refine Oe.mono ?_;rintro e w6 ⟨y,rfl,hy,uI,iX⟩;unfold FV.val;have YB:=Hd ((iX.block w.heap.size (lH XB) (by omega)).trans XB);have YO:=Hd (HO.trans iX);have HY:Hid (∀g k,r2=.ok g k→y.Is (fun q=>w.heap.size<q) w6 g):=fun g k h=>(hy g k h).keep Kr (fun q _ h=>by have:=lH XB;omega);have o7:=Hd uI;clear hy uI iX XB HO dQ Oe;have XB:=YB;have HO:=YO;clear YB YO;obtain⟨b7,iY⟩:=aj w6.heap.size;obtain⟨w7,hw7⟩:=aj (w6.alloc (.cells #[.int .i64 y.o,.int .i64 y.tn,.int .i64 y.tm,.string y.s,.slice y.Ae y.ne y.ce,.slice y.A y.n y.c] 67));have hal:=dz hw7;have X7:=jZ hw7 iY;have YB:=kX hal XB;have YO:=Hd (HO.trans (Ob hal));have YY:Hid (∀g k,r2=.ok g k→y.Is (fun q=>w.heap.size<q) w7 g):=fun g k h=>(HY g k h).keep (Kb hal) (fun _ _ h=>h);have MQ:b7≠R:=by have:=o7.lt;omega
     have adV:w.heap.size<b7:=by have:=lH XB;omega
     have hi6:∀k e,inn d PF i=.bad k e→e≠0:=fun k e h=>by
      unfold inn at h
      by_cases gq:d=256
      ·rw[iP gq]at h;have:=jO h;omega
      ·rw[iN gq]at h;exact HZ (i+1) k e h
     have hZ2:∀k e,r2=.bad k e→e≠0:=fun k e h=>hi6 k e (by rw[←HR2];exact h);obtain⟨hq1,hq2,hq3⟩:=Pz (l:=l) (k:=4) (s:=[41]) (F:=id) hZ2
     have zD:Hid (r2.err=0→r2.at_≤l.length):=by
      intro h
      cases hc:r2 with
      |bad a b=>rw[hc]at h;exact absurd h (hZ2 a b hc)
      |ok f j=>
       have h2:inn d PF i=.ok f j:=by rw[←HR2];exact hc
       unfold inn at h2
       by_cases gq:d=256
       ·rw[iP gq]at h2;cases h2
       ·rw[iN gq]at h2;exact(HG (i+1) f j h2).jl
     have dQ:=Hd (o7.below hal o7.lt);obtain⟨q,hq⟩:=aj (thenTk l r2 4 [41] id);rw[←hq]at hq1 hq2 hq3 HRR;obtain⟨j2,hj2⟩:=aj r2.at_;obtain⟨y2,hy2⟩:=aj r2.err;rw[←hj2,←hy2]at dQ zD hq1 hq2;have HQ1:=Hd hq1;have HQ2:=Hd hq2;have HQ3:=Hd hq3;have Qw7:=Hd hw7;have qM:=Hd iY;clear hj2 hy2 hZ2 hi6 hq hq1 hq2 hq3 hw7 iY hal XB HO HY o7;have XB:=YB;have HO:=YO;have HY:=YY;clear YB YO YY;have hwn:=zV R A c j2 d l y2 4 ⟨#[41]⟩ w7 dQ (HP.only HO) (by first|(intro _;omega)|(intro h;have:=zD h;have:=HN.out;omega));obtain⟨jw,VY⟩:=ak (jQ l (j2) (y2) 4 [41]);rw[show jQ l (j2) (y2) 4 (bs ⟨#[41]⟩)=jw from VY.symm]at hwn;have HC:=Hd hwn;clear hwn;go_wp2_with fail;rw[←Qw7,←qM];refine HC.mono ?_;rintro e w8 ⟨rfl,hR2,ho2⟩;have YB:=Hd ((ho2.block w.heap.size (lH XB) (by omega)).trans XB);have YO:=Hd (HO.trans ho2);have BF:=Hd hR2;replace X7:=Hd ((ho2.block b7 (lH X7) MQ).trans X7);replace HY:Hid (∀f j,r2=.ok f j→y.Is (fun q=>w.heap.size<q) w8 f):=fun f j h=>(HY f j h).keep (aR.cO ho2 (by omega)) (fun _ _ h=>h);clear HC hR2 ho2 XB HO dQ;have XB:=YB;have HO:=YO;have dQ:=BF;clear YB YO BF;rw[←VY]at HQ1 HQ2;obtain⟨u0,u1,u2,u3,u4,u5,eG⟩:=q6 XB;obtain⟨v0,v1,v2,v3,v4,v5,bW⟩:=q6 X7;have sG:=lH XB
     have hvl:=lH X7;go_wp2_with fail;clear u0 eG u1 u2 u3 u4 u5 v0 bW v1 v2 v3 v4 v5;refine bR (Ki (jD XB)) rfl ?_;rw[HRR];refine ou (x:=y) (r:=q) (w1:=w1) (fun f' m h=>?_) (by omega) hRl (by rw[HQ1,HQ2];exact dQ) HO;obtain⟨g,k,h1,h2⟩:=HQ3 f' m h;rw[h2];exact(HY g k h1).keep Kr (fun q _ h=>by omega)
    ·have HT3:Hid (ah l i 4 [40]=false):=by show _=_;simpa using hk
     rw[HT3]at hsg;have qj:=Hd hsg;clear hsg hk;go_wp2_with fail
     go_region_held3 (fun w'=>w'.cell? ⟨R,0,none⟩=some (.slice A n c)∧w'.cell? ⟨R,1,none⟩=some (.int .i64 (i:Nat)))
      (first
        |(go_keep;done)
        |(go_split_ands
          refine⟨?_,?_⟩
          ·(rw[hb5.cell (p:=⟨R,_,none⟩) (by simp;omega)];simpa using c0)
          ·(rw[hb5.cell (p:=⟨R,_,none⟩) (by simp;omega)];simpa using c1))
        |fail)
      ((go_at_call 151;refine qj.mono ?_;rintro e w5 ⟨rfl,hb5⟩))
     have hb6:Below u3.heap.size u3 w5:=((Br _ _).drew).trans hb5;obtain⟨u4,hu4⟩:=aj w5;rw[←hu4]at hb6⊢;replace XB:=kX hb6 XB;replace HO:=Hd (HO.trans (Ob hb6));replace dQ:=Hd (dQ.below hb6 dQ.lt);clear hb5 hb6 hu4 c0 c1 qj;have HTP:=HT3;have qx:=HP.only HO;have hsg:=wB A c i l ⟨#[91]⟩ u4.drew qx.toks.ES qx.len qx.cap qx.bU (by have:=qx.len;omega);rw[show ah l i 4 (bs ⟨#[91]⟩)=ah l i 4 [91]from rfl,←HN]at hsg;clear qx;obtain⟨c0,c1,-⟩:=q4 dQ;have MP:=dQ.lt
     by_cases hk:ah l i 4 [91]=true
     ·have HT4:Hid (ah l i 4 [91]=true):=hk;rw[hk]at hsg;have qj:=Hd hsg;clear hsg hk;go_wp2_with fail
      go_region_held3 (fun w'=>w'.cell? ⟨R,0,none⟩=some (.slice A n c)∧w'.cell? ⟨R,1,none⟩=some (.int .i64 (i:Nat)))
       (first
         |(go_keep;done)
         |(go_split_ands
           refine⟨?_,?_⟩
           ·(rw[hb5.cell (p:=⟨R,_,none⟩) (by simp;omega)];simpa using c0)
           ·(rw[hb5.cell (p:=⟨R,_,none⟩) (by simp;omega)];simpa using c1))
         |fail)
       ((go_at_call 151;refine qj.mono ?_;rintro e w5 ⟨rfl,hb5⟩))
      have hb6:Below u4.heap.size u4 w5:=((Br _ _).drew).trans hb5;obtain⟨u5,hu5⟩:=aj w5;rw[←hu5]at hb6⊢;replace XB:=kX hb6 XB;replace HO:=Hd (HO.trans (Ob hb6));replace dQ:=Hd (dQ.below hb6 dQ.lt);clear hb5 hb6 hu5 c0 c1 qj;have CF:=HT4;have HRR:Hid (F=xY R A c d l (Bz l i) w):=by show _=_;rw[HF];unfold ET;rw[iN (by rw[←gy];simp),iN (by rw[HTE];simp),iN (by rw[Uc];simp),iN (by rw[HTP];simp),iP CF.out]
      have hilt:i<l.length:=dL CF;have CO:kK u5 R A l.length c i d 0:=by rw[←HN];exact dQ
      have HTM:=Hd (Ye R A c d l i u5 hilt CO (HP.only HO));clear CO;go_wp2_with fail;refine HTM.mono ?_;rintro e w6 ⟨y,rfl,hy,uI,iX⟩;unfold FV.val;have YB:=Hd ((iX.block w.heap.size (lH XB) (by omega)).trans XB);have YO:=Hd (HO.trans iX);have hl5:=lH XB;have HY:=Hd hy;have o7:=Hd uI;clear hy uI iX XB HO dQ HTM;have XB:=YB;have HO:=YO;clear YB YO;obtain⟨u0,u1,u2,u3,u4,u5,eG⟩:=q6 XB;have sG:=lH XB;go_wp2_with fail;clear u0 eG u1 u2 u3 u4 u5;refine bR (Ki (jD XB)) rfl ?_;rw[HRR];exact ou (x:=y) (w1:=u5) HY hl5 hRl o7 HO
     ·have HT4:Hid (ah l i 4 [91]=false):=by show _=_;simpa using hk
      rw[HT4]at hsg;have qj:=Hd hsg;clear hsg hk;go_wp2_with fail
      go_region_held3 (fun w'=>w'.cell? ⟨R,0,none⟩=some (.slice A n c)∧w'.cell? ⟨R,1,none⟩=some (.int .i64 (i:Nat)))
       (first
         |(go_keep;done)
         |(go_split_ands
           refine⟨?_,?_⟩
           ·(rw[hb5.cell (p:=⟨R,_,none⟩) (by simp;omega)];simpa using c0)
           ·(rw[hb5.cell (p:=⟨R,_,none⟩) (by simp;omega)];simpa using c1))
         |fail)
       ((go_at_call 151;refine qj.mono ?_;rintro e w5 ⟨rfl,hb5⟩))
      have hb6:Below u4.heap.size u4 w5:=((Br _ _).drew).trans hb5;obtain⟨u5,hu5⟩:=aj w5;rw[←hu5]at hb6⊢;replace XB:=kX hb6 XB;replace HO:=Hd (HO.trans (Ob hb6));replace dQ:=Hd (dQ.below hb6 dQ.lt);clear hb5 hb6 hu5 c0 c1 qj;have CF:=HT4;have HRR:Hid (F=xY R A c d l (.bad i 16) w):=by show _=_;rw[HF];unfold ET;rw[iN (by rw[←gy];simp),iN (by rw[HTE];simp),iN (by rw[Uc];simp),iN (by rw[HTP];simp),iN (by rw[CF];simp)]
      have HST:=Hd (DX R A n c i d 16 u5 dQ);go_wp2_with fail;refine HST.mono ?_;rintro e w8 ⟨rfl,hR8,FJ⟩;unfold FV.val FV.zero;simp only;have Y8:=Hd ((FJ.block w.heap.size (lH XB) (by omega)).trans XB);have HR8:=Hd hR8;have HO8:=Hd (HO.trans FJ);have hvl:=lH Y8;clear hR8 FJ XB;obtain⟨v0,v1,v2,v3,v4,v5,bW⟩:=q6 Y8;go_wp2_with fail;clear v0 bW v1 v2 v3 v4 v5;refine bR (Ki (jD Y8)) rfl ?_;rw[HRR];have hRf:=HR8.out;rw[HN]at hRf;exact CJ (r:=.bad i 16) (fun f j h=>nomatch h) hRl hRf HO8 _ _ _ _ _ _
 ·have hone:n_ l i≠0:=by rw[←gy];exact hz
  have HRR:Hid (F=xY R A c d l ((inn d PU i).then fun f j=>.ok (fT op [f]) j) w):=by show _=_;rw[HF];unfold ET;rw[iP hone,gy]
  have hilt:i<l.length:=(TK hone).2.1;have hzb:(op != 0)=true:=by simpa using hz
  clear hone hz;have CO:kK w2 R A l.length c i d 0:=by rw[←HN];exact dQ
  have hwi:=uK R A c d l 177 PU i w2 (fun _ _=>by kernel_rfl) He hd hilt CO (HP.only HO);rw[show(if d=256 then Rs.bad i 17 else PU (i+1))=inn d PU i from rfl]at hwi;obtain⟨r2,HR2⟩:=ak (inn d PU i);rw[←HR2]at hwi HRR;have Oe:=Hd hwi;clear CO hwi;go_wp2_with fail;refine Oe.mono ?_;rintro e w6 ⟨y,rfl,hy,uI,iX⟩;unfold FV.val;have YB:=Hd ((iX.block w.heap.size (lH XB) (by omega)).trans XB);have YO:=Hd (HO.trans iX);have HY:Hid (∀g k,r2=.ok g k→y.Is (fun q=>w.heap.size<q) w6 g):=fun g k h=>(hy g k h).keep Kr (fun q _ h=>by have:=lH XB;omega);have o7:=Hd uI;clear hy uI iX XB HO dQ Oe;have XB:=YB;have HO:=YO;clear YB YO;obtain⟨u0,u1,u2,u3,u4,u5,eG⟩:=q6 XB;have sG:=lH XB;go_wp2_with fail;clear u0 eG u1 u2 u3 u4 u5;obtain⟨W0,hW0⟩:=aj (((((((w6.setCell ⟨w.heap.size,0,none⟩ (.int .i64 op)).setCell ⟨w.heap.size,1,none⟩ (.int .i64 0)).setCell ⟨w.heap.size,2,none⟩ (.int .i64 0)).setCell ⟨w.heap.size,3,none⟩ (.string ⟨#[]⟩)).setCell ⟨w.heap.size,4,none⟩ (.slice none 0 0)).setCell ⟨w.heap.size,5,none⟩ (.slice (some ⟨w6.heap.size+1,0,none⟩) 1 1)));have hz0:W0.heap.size=w6.heap.size:=by rw[hW0];simp
  have xb0:W0.heap[w.heap.size]?=some (.cells #[.int .i64 op,.int .i64 0,.int .i64 0,.string ⟨#[]⟩,.slice none 0 0,.slice (some ⟨w6.heap.size+1,0,none⟩) 1 1] 67 (0,0)):=by rw[hW0];exact jD XB
  have hR0:kK W0 R A l.length c r2.at_ d r2.err:=by rw[hW0];exact(jH (by omega)).trans o7
  have hO0:Only (fun q=>q=R) w W0:=by rw[hW0];exact o9 HO (lr _)
  have hk0:aR (fun q=>w.heap.size<q) w6 W0:=by rw[hW0];exact mO Kr (by simp)
  rw[←hW0];clear hW0;refine bR (Ki (aK (aK xb0))) rfl ?_;rw[HRR];have hnew:=eu (W0.alloc (.cells #[.int .i64 y.o,.int .i64 y.tn,.int .i64 y.tm,.string y.s,.slice y.Ae y.ne y.ce,.slice y.A y.n y.c] 67)) (.cells y.cells.toArray 67);rw[show(W0.alloc (.cells #[.int .i64 y.o,.int .i64 y.tn,.int .i64 y.tm,.string y.s,.slice y.Ae y.ne y.ce,.slice y.A y.n y.c] 67)).heap.size=w6.heap.size+1 from by simp[hz0]]at hnew;have hkk:=(hk0.alloc (.cells #[.int .i64 y.o,.int .i64 y.tn,.int .i64 y.tm,.string y.s,.slice y.Ae y.ne y.ce,.slice y.A y.n y.c] 67)).alloc (.cells y.cells.toArray 67);refine aga (x:=y) (op:=op) (by omega) hnew (fun q' m h=>?_) ?_ (mP (mP hO0 _) _)
  ·obtain⟨g,k,h1,h2⟩:=then_ok h;obtain⟨rfl,rfl⟩:=bH h2;exact⟨g,rfl,(HY g k h1).keep hkk (fun _ _ h=>Nat.le_of_lt h)⟩
  ·have hRF:kK ((W0.alloc (.cells #[.int .i64 y.o,.int .i64 y.tn,.int .i64 y.tm,.string y.s,.slice y.Ae y.ne y.ce,.slice y.A y.n y.c] 67)).alloc (.cells y.cells.toArray 67)) R A l.length c r2.at_ d r2.err:=(hR0.below ((Br _ _).alloc (lr _) _) hR0.lt).below (((Br _ _).alloc (lr _) _)) (by simp;have:=hR0.lt;omega);cases r2<;>exact hRF
structure ad2(R:Nat)(A:Option Addr)(c d:Nat)(l:List Tok)(v:jG):Prop where
 form:FnF R A c d l 124 v.form
 unit:FnF R A c d l 177 v.unit
theorem Yr{d:Nat}{P:gK}{s:Option gK}(hs:s=if d=256 then none else some P)(i:Nat):rF s i=inn d P i:=by
 unfold rF inn;rw[hs]
 by_cases h:d=256
 ·rw[iP h,iP h]
 ·rw[iN h,iN h]
theorem ad3{l:List Tok}{d:Nat}{P:gK}{s:Option gK}(hs:s=if d=256 then none else some P)(op:Int)(i:Nat):wK l s op i=(inn d (AY l P) i).then fun f j=>.ok (.mk op f.tm f.kids) j:=by
 unfold wK inn AY;rw[hs]
 by_cases h:d=256
 ·rw[iP h,iP h];rfl
 ·rw[iN h,iN h];simp only
  by_cases h1:ah l (i+1) 4 [91]=true
  ·rw[iP h1,iP h1]
   cases h2:P (i+1+1)with
   |bad a b=>rfl
   |ok f j=>
    simp only[Rs.then_ok]
    by_cases h3:ah l j 3 [85]=true
    ·rw[iP h3,iP h3];unfold thenTk
     cases h4:P (j+1)with
     |bad a b=>rfl
     |ok g k=>
      simp only[Rs.then_ok]
      by_cases h5:ah l k 4 [93]=true
      ·rw[iP h5,iP h5];rfl
      ·rw[iN h5,iN h5];rfl
    ·rw[iN h3,iN h3];rfl
  ·rw[iN h1,iN h1];rfl
theorem ad4{l:List Tok}{d:Nat}{v:jG}{s:Option jG}(hs:s=if d=256 then none else some v):ET l d v.unit v.form=jg l s:=by
 have h1:s.map jG.form=if d=256 then none else some v.form:=by rw[hs];split<;>rfl
 have h2:s.map jG.unit=if d=256 then none else some v.unit:=by rw[hs];split<;>rfl
 funext i
 unfold ET jg;rw[Yr h2,Yr h1,ad3 h1,ad3 h1]
 rfl
theorem PE(R:Nat)(A:Option Addr)(c d:Nat)(l:List Tok)(s:Option jG)(v:jG)(hd:d≤256)(hs:s=if d=256 then none else some v)(hv:d<256→ad2 R A c (d+1) l v)(hg:QN l v)(hz:QO v):ad2 R A c d l ⟨pK l s,jg l s⟩:=by
 have hsv:∀v',s=some v'→v'=v:=fun v' h=>by
  rw[hs]at h
  split at h
  ·cases h
  ·cases h;rfl
 obtain⟨g1,g2⟩:=KO (l:=l) (s:=s) (fun v' h=>by rw[hsv v' h];exact hg);obtain⟨z1,z2⟩:=KP (s:=s) (fun v' h=>by rw[hsv v' h];exact hz);have gU:=Cq g1 g2;have zU:=Cr (l:=l) z1 z2;have hu:=abX R A c d l v.unit v.form hd (fun h=>(hv h).unit) (fun h=>(hv h).form) hg.form hz.form;rw[ad4 hs]at hu;have hand:=abU R A c d l _ (ahN R A c d l _ hu gU zU);have gA:xV l (BA l s):=IX (by decide) (by decide) gU;have zA:vw (BA l s):=IZ zU;have hor:=ahM R A c d l _ hand gA zA;have hform:=abW R A c d l (IU l s) v.form hd hor (IX (by decide) (by decide) gA) (IZ zA) (fun h=>(hv h).form);have h1:s.map jG.form=if d=256 then none else some v.form:=by rw[hs];split<;>rfl
 have he:pK l s=fun i=>(IU l s i).then fun f j=>if ah l j 4 [45,62]=true then(inn d v.form j).then fun g k=>.ok (fT 5 [f,g]) k else .ok f j:=by
  funext i
  unfold pK
  congr 1
  funext f j
  rw[Yr h1]
 refine⟨?_,hu⟩;rw[he];exact hform
theorem aaX(R:Nat)(A:Option Addr)(c:Nat)(l:List Tok):∀r d,d+r=256→ad2 R A c d l (lJ l r)
 |0,d,h=>by
  rw[lJ];exact PE R A c d l none (lJ l 0) (by omega) (by rw[iP (by omega)]) (fun h=>by omega) (yx l 0) (yA l 0)
 |r+1,d,h=>by
  rw[lJ];exact PE R A c d l (some (lJ l r)) (lJ l r) (by omega) (by rw[iN (by omega)]) (fun _=>aaX R A c l r (d+1) (by omega)) (yx l r) (yA l r)
end Go.Proofs.YtkhoeoilamddaaaGreatDoor
