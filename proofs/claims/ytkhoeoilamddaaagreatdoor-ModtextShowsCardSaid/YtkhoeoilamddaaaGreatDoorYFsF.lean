/- Walk: ftext's reader.row. -/
import Derived.Test.YtkhoeoilamddaaaGreatDoorYFsM
namespace Go.Proofs.YtkhoeoilamddaaaGreatDoor
open Go.RowKit
set_option linter.unusedVariables false
set_option linter.unusedSimpArgs false
set_option maxRecDepth 100000
set_option maxHeartbeats 8000000
structure PD(R:Nat)(A:Option Addr)(c d:Nat)(l:List Tok)(w:World)(b7:Nat)(op:Int)(sign:Bs)(P:gK)(r:Rs Fm)(wr:World)(ra:Rs Fm)(x:FV)(fuel:Nat):Prop where
 xb:wr.heap[w.heap.size]?=some (.cells #[.int .i64 0,.int .i64 0,.int .i64 0,.string ⟨#[]⟩,.slice none 0 0,.slice none 0 0] 67 (0,0))
 x7:wr.heap[b7]?=some (.cells #[.int .i64 x.o,.int .i64 x.tn,.int .i64 x.tm,.string x.s,.slice x.Ae x.ne x.ce,.slice x.A x.n x.c] 67 (0,0))
 is:∀f j,ra=.ok f j→x.Is (fun q=>w.heap.size<q∧q≠b7) wr f
 rd:kK wr R A l.length c ra.at_ d ra.err
 only:Only (fun q=>q=R) w wr
 gd:∀f j,ra=.ok f j→j≤l.length∧l.length≤fuel+j
 nz:∀j e,ra=.bad j e→e≠0
 re:(ra.then fun f j=>mH l op sign P fuel f j)=r
def agc(R n:Nat)(w:World):Nat:=match w.cell? ⟨R,1,none⟩,w.cell? ⟨R,3,none⟩with
 |some (.int _ i),some (.int _ x)=>if x=0 then n-i.toNat+1 else 0
 |_,_=>0
theorem KU{w:World}{R n c i d:Nat}{x:Int}{A:Option Addr}(h:kK w R A n c i d x):agc R n w=if x=0 then n-i+1 else 0:=by
 obtain⟨-,c1,-,c3,-⟩:=q4 h;unfold agc;rw[c1,c3];simp
theorem aaW{l:List Tok}{op:Int}{sign:Bs}{P:gK}{f:Fm}{j:Nat}(h:ah l j 4 sign=true)(K:Nat):mH l op sign P (K+1) f j=((P (j+1)).then fun g k=>.ok (fT op [f,g]) k).then fun g k=>mH l op sign P K g k:=by
 rw[mH,iP h];cases P (j+1)<;>rfl
theorem AZ{l:List Tok}{op:Int}{sign:Bs}{P:gK}{f:Fm}{j:Nat}(h:ah l j 4 sign=false)(K:Nat):mH l op sign P K f j=.ok f j:=by cases K<;>simp[mH,h]
def Yf:Oper:={dst:=some 40,op:=Op.move (Operand.tmp 1),type:=3,pos := "ftext.go:84",after:=#[],guard:=none}
def Yg:Oper:={dst:=some 41,op:=Op.load 67 (Operand.tmp 7),type:=67,pos := "ftext.go:84",after:=#[],guard:=none}
def Yh:Oper:={dst:=some 42,op:=Op.move (Operand.tmp 5),type:=108,pos := "ftext.go:84",after:=#[],guard:=none}
def Yi:Oper:={dst:=some 43,op:=Op.call {callee:=Callee.value (Operand.tmp 42),args:=#[],argTypes:=#[]},type:=67,pos := "ftext.go:84",after:=#[{on:=2,ground:=Ground.data}],guard:=none}
def adT:Oper:={dst:=some 44,op:=Op.buildSlice 65 2 #[(0,Operand.tmp 41),(1,Operand.tmp 43)],type:=65,pos := "ftext.go:84",after:=#[{on:=1,ground:=Ground.data},{on:=3,ground:=Ground.data}],guard:=none}
def Yj:Oper:={dst:=some 45,op:=Op.build 67 #[(0,Operand.tmp 40),(2,Operand.tmp 44)],type:=67,pos := "ftext.go:84",after:=#[{on:=0,ground:=Ground.data},{on:=4,ground:=Ground.data}],guard:=none}
def adU:Oper:={dst:=none,op:=Op.store 67 (Operand.tmp 7) (Operand.tmp 45),type:=0,pos := "ftext.go:84",after:=#[{on:=5,ground:=Ground.data},{on:=3,ground:=Ground.chain},{on:=0,ground:=Ground.phase},{on:=1,ground:=Ground.phase},{on:=2,ground:=Ground.phase},{on:=3,ground:=Ground.phase},{on:=4,ground:=Ground.phase},{on:=5,ground:=Ground.phase}],guard:=none}
theorem ahM(R:Nat)(A:Option Addr)(c d:Nat)(l:List Tok)(P:gK)(hF:FnF R A c d l 178 P)(hG:xV l P)(hZ:vw P):FnO R A c d l 4 (Eo l 4 [124] P):=by
 intro i w hi hR hP;obtain⟨w1,hw1⟩:=aj (w.alloc (.cells #[.int .i64 0,.int .i64 0,.int .i64 0,.string ⟨#[]⟩,.slice none 0 0,.slice none 0 0] 67));have hb1:=dz hw1;have hs1:w1.heap.size=w.heap.size+1:=by rw[hw1];simp
 have x1:w1.heap[w.heap.size]?=some (.cells #[.int .i64 0,.int .i64 0,.int .i64 0,.string ⟨#[]⟩,.slice none 0 0,.slice none 0 0] 67 (0,0)):=by rw[hw1];exact eu w _
 have sQ:=hR.below hb1 hR.lt;have hRl:=hR.lt;have hlen:=hP.len;have hcall:=hF i w1 hi sQ (hP.only (Ob hb1));obtain⟨r1,hr1⟩:=aj (P i);rw[←hr1]at hcall;have hmf:∀(fn:Fn)(first cap:Array Value)(w:World),(Instr.makeFunc fn first cap).run Tryz.prog w=.ok (.func fn first cap) w:=fun _ _ _ _=>rfl;obtain⟨n,hn⟩:=aj l.length;obtain⟨r,hr⟩:=aj (Eo l 4 [124] P i);obtain⟨F,HF⟩:=ak (xY R A c d l r w);rw[←hr,←HF];have kI:Hid ((r1.then fun f j=>mH l 4 [124] P l.length f j)=r):=by show _=_;rw[hr,hr1];rfl
 have QU:Hid (∀f j,r1=.ok f j→VP l i f j):=fun f j h=>hG i f j (by rw[←hr1];exact h);have HZ1:Hid (∀j e,r1=.bad j e→e≠0):=fun j e h=>hZ i j e (by rw[←hr1];exact h);have HC:=Hd hcall;have Am:=Hd hF;have HG:=Hd hG;have HZ:=Hd hZ;have HP:=Hd hP;have HN:=Hd hn;have HW1:=Hd hw1;have HO:Hid (Only (fun q=>q=R) w w1):=Ob hb1;have XB:=Hd x1;rw[←hn]at hi hlen;clear hw1 hb1 hR sQ hF hP x1 hcall hr hr1 hG hZ hn;go_in;go_wp2_with fail;rw[←HW1];refine HC.mono ?_;rintro e w2 ⟨x,rfl,hx,hR2,ho2⟩;unfold FV.val;obtain⟨b7,iY⟩:=aj w2.heap.size;obtain⟨w3,hw3⟩:=aj (w2.alloc (.cells #[.int .i64 x.o,.int .i64 x.tn,.int .i64 x.tm,.string x.s,.slice x.Ae x.ne x.ce,.slice x.A x.n x.c] 67));have hal:=dz hw3;have x7:w3.heap[b7]?=some (.cells #[.int .i64 x.o,.int .i64 x.tn,.int .i64 x.tm,.string x.s,.slice x.Ae x.ne x.ce,.slice x.A x.n x.c] 67 (0,0)):=by rw[hw3,iY];exact eu w2 _
 have hlb:=lL (lH XB) ho2.size;have MQ:b7≠R:=by have:=hR2.lt;omega
 have adV:w.heap.size<b7:=by omega
 have JO:Hid (PD R A c d l w b7 4 [124] P r w3 r1 x l.length):=⟨(hal.block w.heap.size hlb).trans ((ho2.block w.heap.size (lH XB) (by omega)).trans XB),x7,fun f j h=>((hx f j h).keep (S':=fun q=>w.heap.size<q∧q≠b7) Kr (fun q hq h=>by have:=lH XB;omega)).keep (Kb hal) (fun _ _ h=>h),hR2.below hal hR2.lt,HO.trans (ho2.trans (Ob hal)),fun f j h=>⟨(QU f j h).jl,by omega⟩,HZ1,kI⟩;have Ao:=Hd hw3;have qM:=Hd iY;clear hx hR2 ho2 hal x7 hw3 iY HC XB HO;go_wp2_with fail;rw[←Ao,←qM]
 go_loopw [32] (fun _ wr=>∃(ra:Rs Fm)(x:FV)(fuel:Nat),PD R A c d l w b7 4 [124] P r wr ra x fuel) (fun _ wr=>agc R l.length wr)
 case atStart=>exact⟨r1,x,l.length,JO⟩
 case round=>
  obtain⟨ra,x,fuel,hS⟩:=hrel;have HS:=Hd hS;have XB:=Hd hS.xb;have X7:=Hd hS.x7;clear hS JO
  rcases ra with⟨jb,eb⟩|⟨f,j⟩
  ·have hx:=HS.nz jb eb rfl;have hxb:(eb==0)=false:=by simpa using hx
   have HRR:Hid (F=xY R A c d l (.bad jb eb) w):=by show _=_;rw[HF,←HS.re];rfl
   obtain⟨c0,c1,-,c3,-⟩:=q4 (show kK wr R A l.length c jb d eb from HS.rd);have hrl:=HS.rd.lt;clear hx;go_wp2_with fail
   go_quiet (fail)
   obtain⟨v0,v1,v2,v3,v4,v5,bW⟩:=q6 X7;obtain⟨u0,u1,u2,u3,u4,u5,eG⟩:=q6 XB;have hvl:=lH X7;have sG:=lH XB;clear c0 c1 c3;go_wp2_with fail;clear v0 bW v1 v2 v3 v4 v5 u0 eG u1 u2 u3 u4 u5;refine bR (Ki (jD (W:=wr.drewN nq) XB)) rfl ?_;rw[HRR];exact ou (x:=x) (r:=.bad jb eb) (w1:=wr) (fun f j h=>nomatch h) sG hRl HS.rd (HS.only.drewN nq)
  ·have hS2:=HS.gd f j rfl;have He:=Hd hS2.2;have hjl:j≤n:=by rw[HN];exact hS2.1
   have hrd:kK wr R A n c j d 0:=by rw[HN];exact HS.rd
   have dQ:=Hd hrd;obtain⟨c0,c1,-,c3,-⟩:=q4 hrd;have hrl:=hrd.lt;have qx:=HP.only HS.only;have hcap:=qx.cap;have aQ:=qx.bU;unfold maxLen at aQ;rw[←HN]at hcap;have hsg:=wB A c j l ⟨#[124]⟩ wr.drew qx.toks.ES qx.len qx.cap qx.bU (by omega);rw[←HN,show ah l j 4 (bs ⟨#[124]⟩)=ah l j 4 [124]from rfl]at hsg;have HI:=Hd (HS.is f j rfl);have bE:Hid (mH l 4 [124] P fuel f j=r):=HS.re;clear hS2 hrd qx
   by_cases hk:ah l j 4 [124]=true
   ·rw[hk]at hsg;have qj:=Hd hsg;have hjlt:j<n:=by rw[HN];exact dL hk
    obtain⟨fu,hfu⟩:∃fu,fuel=fu+1:=⟨fuel-1,by have:=He.out;have:=HN.out;omega⟩;have adW:Hid (((P (j+1)).then fun g k=>.ok (fT 4 [f,g]) k).then (fun g k=>mH l 4 [124] P fu g k)=r):=by show _=_;rw[←bE,hfu,aaW hk]
    have Yk:Hid (l.length≤fu+(j+1)):=by show _≤_;have:=He.out;omega
    clear hsg hk hfu bE He;go_wp2_with fail
    go_region_held3 (fun w'=>w'.cell? ⟨R,0,none⟩=some (.slice A n c)∧w'.cell? ⟨R,1,none⟩=some (.int .i64 (j:Nat))∧w'.cell? ⟨R,3,none⟩=some (.int .i64 0))
     (first
       |(go_keep;done)
       |(go_split_ands
         refine⟨?_,?_,?_⟩
         ·(rw[hb5.cell (p:=⟨R,_,none⟩) (by simp;omega)];simpa using c0)
         ·(rw[hb5.cell (p:=⟨R,_,none⟩) (by simp;omega)];simpa using c1)
         ·(rw[hb5.cell (p:=⟨R,_,none⟩) (by simp;omega)];simpa using c3))
       |fail)
     ((go_at_call 151;refine qj.mono ?_;rintro e w5 ⟨rfl,hb5⟩))
    have hb6:Below wr.heap.size wr w5:=((Br _ _).drew).trans hb5;have YB:=kX hb6 XB;have Y7:=kX hb6 X7;have YO:=Hd (HS.only.trans (Ob hb6));have BF:=Hd (dQ.below hb6 hrl);have YI:Hid (x.Is (fun q=>w.heap.size<q∧q≠b7) w5 f):=HI.keep (Kb hb6) (fun _ _ h=>h);clear hb5 hb6 XB X7 dQ HI c0 c1 c3 qj;have XB:=YB;have X7:=Y7;have HO:=YO;have dQ:=BF;have HI:=YI;clear YB Y7 YO BF YI;obtain⟨-,c1,-,-,fq⟩:=q4 dQ;have ajs:=dQ.lt;go_wp2_with fail;clear c1 fq;obtain⟨w6,mV⟩:=aj (w5.setCell ⟨R,1,none⟩ (.int .i64 ((j:Int)+1)));obtain⟨Wc,hWc⟩:=aj w6.drew
    have Yl:kK Wc R A n c (j+1) d 0:=by
     have h:=dQ.at_ (j+1);rw[show((j+1:Nat):Int)=(j:Int)+1 from by omega]at h;rw[hWc,mV];exact h
    have adX:b7≠(⟨R,1,none⟩:Addr).block:=MQ;have YB:Hid (Wc.heap[w.heap.size]?=some (.cells #[.int .i64 0,.int .i64 0,.int .i64 0,.string ⟨#[]⟩,.slice none 0 0,.slice none 0 0] 67 (0,0))):=by show _=_;rw[hWc,mV];exact(iw w5 ⟨R,1,none⟩ w.heap.size _ (by show w.heap.size≠R;omega)).trans XB
    have Y7:Hid (Wc.heap[b7]?=some (.cells #[.int .i64 x.o,.int .i64 x.tn,.int .i64 x.tm,.string x.s,.slice x.Ae x.ne x.ce,.slice x.A x.n x.c] 67 (0,0))):=by show _=_;rw[hWc,mV];exact(iw w5 ⟨R,1,none⟩ b7 _ adX).trans X7
    have YO:Hid (Only (fun q=>q=R) w Wc):=by show Only _ _ _;rw[hWc,mV];exact(HO.bq (show R=R from rfl) _).drewN 1
    have YI:Hid (x.Is (fun q=>w.heap.size<q∧q≠b7) Wc f):=by show FV.Is _ _ _ _;rw[hWc,mV];exact(HI.keep (aR.refl.set (by omega) _) (fun _ _ h=>h)).keep ⟨lr _,fun _ _ _=>rfl⟩ (fun _ _ h=>h)
    rw[HN]at Yl;have hpc:=Am (j+1) Wc (by have:=HN.out;omega) Yl (HP.only YO);obtain⟨r2,hr2⟩:=aj (P (j+1));rw[←hr2]at hpc;rw[←hr2]at adW;have HG2:Hid (∀g k,r2=.ok g k→VP l (j+1) g k):=fun g k h=>HG (j+1) g k (by rw[←hr2];exact h);have HZ2:Hid (∀k e,r2=.bad k e→e≠0):=fun k e h=>HZ (j+1) k e (by rw[←hr2];exact h);have HPC:=Hd hpc;refine wp_region_held_drew (S:=fun w'=>w'.heap[w.heap.size]?=some (.cells #[.int .i64 0,.int .i64 0,.int .i64 0,.string ⟨#[]⟩,.slice none 0 0,.slice none 0 0] 67 (0,0))) (by kernel_rfl) (by rw[←mV,←hWc];exact YB) (fun hHeld=>?_);rw[←mV,←hWc]at hHeld;rw[←mV,←hWc];clear mV hWc XB X7 HO HI dQ Yl hpc hr2 adX;have XB:=YB;have X7:=Y7;have HO:=YO;have HI:=YI;clear YB Y7 YO YI;refine wpAnyH_take (i:=0) (oi:=Yf) (v:=?_) rfl (by kernel_rfl) (by kernel_rfl) (by kernel_rfl) (fun _ _ _ h=>h) (Or.inl ⟨by rfl,?hy⟩) (by assumption) ?_
    case hy=>
     unfold Yf;intro w0 hSw;clear hSw;go_simp
     (first|done|with_reducible rfl)
    (try simp only[Yf,Act.put,aT,aU,aV]);refine wpAnyH_take (i:=2) (oi:=Yh) (v:=?_) rfl (by kernel_rfl) (by kernel_rfl) (by kernel_rfl) (fun _ _ _ h=>h) (Or.inl ⟨by rfl,?hy⟩) (by assumption) ?_
    case hy=>
     unfold Yh;intro w0 hSw;clear hSw;go_simp
     (first|done|with_reducible rfl)
    (try simp only[Yh,Act.put,aT,aU,aV]);refine Rd (rs:=[1,3]) (by kernel_rfl) (by simp) ?_;refine Rc (o:=Yg) rfl (fun K hK=>?_) (Rc (o:=Yi) rfl (fun K hK=>?_) Rn)
    iterate 4
     all_goals first
      |(unfold Yg
        obtain⟨v0,v1,v2,v3,v4,v5,bW⟩:=q6 X7;go_simp;clear v0 bW v1 v2 v3 v4 v5;refine hK.out _ _ (hHeld) (fun hHeld=>?_);clear hK K;try simp only[Act.put,aT,aU,aV]
        obtain⟨D1,-⟩:∃n:Nat,n=n:=⟨0,rfl⟩)
      |(unfold Yi
        go_simp;(with_reducible refine(HPC.out).mono ?_);rintro e Wc ⟨y,rfl,hy,hR8,FJ⟩;unfold FV.val;have x78:=(FJ.block b7 (lH X7) MQ).trans X7;refine hK.out _ _ ((FJ.block w.heap.size (lH XB) (by omega)).trans XB) (fun hHeld=>?_);clear hK K;(try simp only[Act.put,aT,aU,aV]);have YB:=Hd ((FJ.block w.heap.size (lH XB) (by omega)).trans XB);have Y7:=Hd x78;have YO:=Hd (HO.trans FJ);have YI:Hid (x.Is (fun q=>w.heap.size<q∧q≠b7) Wc f):=HI.keep (aR.cO FJ (by omega)) (fun _ _ h=>h);have HY:Hid (∀g k,r2=.ok g k→y.Is (fun q=>w.heap.size<q∧q≠b7) Wc g):=fun g k h=>(hy g k h).keep Kr (fun q _ h=>by have:=lH X7;omega);have dQ:=Hd hR8;clear hy hR8 FJ x78 XB X7 HO HI;have XB:=YB;have X7:=Y7;have HO:=YO;have HI:=YI;clear YB Y7 YO YI
        obtain⟨D3,-⟩:∃n:Nat,n=n:=⟨0,rfl⟩)
      |(unfold adT
        go_simp;obtain⟨g,hg⟩:=aj Wc.heap.size;obtain⟨W2,hW2⟩:=aj (Wc.alloc (.cells #[.int .i64 x.o,.int .i64 x.tn,.int .i64 x.tm,.string x.s,.slice x.Ae x.ne x.ce,.slice x.A x.n x.c,.int .i64 y.o,.int .i64 y.tn,.int .i64 y.tm,.string y.s,.slice y.Ae y.ne y.ce,.slice y.A y.n y.c] 67));have hal:=dz hW2;have hrow:W2.heap[g]?=some (.cells (x.cells++y.cells).toArray 67 (0,0)):=by rw[hW2,hg];exact eu Wc _
        have x72:=(hal.block b7 (lH X7)).trans X7;have Ep:g≠b7:=by have:=lH X7;omega
        have hgw:w.heap.size<g:=by have:=lH XB;omega
        rw[←hW2,←hg];refine hK.out _ _ ((hal.block w.heap.size (lH XB)).trans XB) (fun hHeld=>?_);clear hK K;(try simp only[Act.put,aT,aU,aV]);replace XB:=kX hal XB;replace X7:=Hd x72;replace HO:=Hd (HO.trans (Ob hal));replace dQ:=Hd (dQ.below hal dQ.lt);have HIS:Hid (∀h k,r2=.ok h k→(FV.mk 4 0 0 ⟨#[]⟩ none 0 0 (some ⟨g,0,none⟩) 2 2).Is (fun q=>w.heap.size<q∧q≠b7) W2 (fT 4 [f,h])):=fun h k hr=>FV.FH (HI.keep (Kb hal) (fun _ _ h=>h)) ((HY h k hr).keep (Kb hal) (fun _ _ h=>h)) ⟨hgw,Ep⟩ hrow;clear hal hrow x72 HI HY hW2 hg
        obtain⟨D4,-⟩:∃n:Nat,n=n:=⟨0,rfl⟩)
      |(unfold adU
        obtain⟨v0,v1,v2,v3,v4,v5,bW⟩:=q6 X7;go_simp;clear v0 bW v1 v2 v3 v4 v5;refine hK.out _ _ ((jH (by omega)).trans hHeld) (fun hHeld=>?_);clear hK K;try simp only[Act.put,aT,aU,aV]
        obtain⟨D6,-⟩:∃n:Nat,n=n:=⟨0,rfl⟩)
      |fail
     all_goals first
      |have:=T5
      |(have:=D1
        have:=D3;have:=D4;refine wpAnyH_take (i:=5) (oi:=Yj) (v:=?_) rfl (by kernel_rfl) (by kernel_rfl) (by kernel_rfl) (fun _ _ _ h=>h) (Or.inl ⟨by rfl,?hy⟩) (by assumption) ?_
        case hy=>
         unfold Yj;intro w0 hSw;clear hSw;go_simp
         (first|done|with_reducible rfl)
        try simp only[Yj,Act.put,aT,aU,aV]
        obtain⟨T5,-⟩:∃n:Nat,n=n:=⟨0,rfl⟩)
      |skip
     all_goals first
      |(have:=D1
        have:=D3;have:=D4;have:=D6;refine wpAnyH_done (by kernel_rfl) ?_ _;clear hHeld;have hjo:=KU HS.rd;have vE:=HG2;go_wp2_with fail;obtain⟨W9,CK⟩:=aj (((((((W2.setCell ⟨b7,0,none⟩ (.int .i64 4)).setCell ⟨b7,1,none⟩ (.int .i64 0)).setCell ⟨b7,2,none⟩ (.int .i64 0)).setCell ⟨b7,3,none⟩ (.string ⟨#[]⟩)).setCell ⟨b7,4,none⟩ (.slice none 0 0)).setCell ⟨b7,5,none⟩ (.slice (some ⟨g,0,none⟩) 2 2)))
        have Oj:PD R A c d l w b7 4 [124] P r W9 (r2.then fun g k=>.ok (fT 4 [f,g]) k) (FV.mk 4 0 0 ⟨#[]⟩ none 0 0 (some ⟨g,0,none⟩) 2 2) fu:=by
         refine⟨?_,?_,fun q k h=>?_,?_,?_,fun q k h=>?_,fun k e h=>?_,adW⟩
         ·rw[CK];exact(jH (by omega)).trans XB
         ·rw[CK];exact jD X7
         ·obtain⟨h',k',h1,h2⟩:=then_ok h;obtain⟨rfl,rfl⟩:=bH h2;rw[CK];exact(HIS h' k' h1).keep (mO Kr (by simp)) (fun _ _ h=>h)
         ·rw[CK];have hR0:kK ((((((W2.setCell ⟨b7,0,none⟩ (.int .i64 4)).setCell ⟨b7,1,none⟩ (.int .i64 0)).setCell ⟨b7,2,none⟩ (.int .i64 0)).setCell ⟨b7,3,none⟩ (.string ⟨#[]⟩)).setCell ⟨b7,4,none⟩ (.slice none 0 0)).setCell ⟨b7,5,none⟩ (.slice (some ⟨g,0,none⟩) 2 2)) R A l.length c r2.at_ d r2.err:=(jH (Ne.symm MQ)).trans dQ;cases r2<;>exact hR0
         ·rw[CK];exact o9 HO (Nat.le_of_lt adV)
         ·obtain⟨h',k',h1,h2⟩:=then_ok h;obtain⟨rfl,rfl⟩:=bH h2;have:=HG2 h' k' h1;have:=Yk.out;exact⟨(HG2 h' k' h1).jl,by have:=(HG2 h' k' h1).ij;omega⟩
         ·rcases dh h with h1|⟨x,k,-,h1⟩
          ·exact HZ2 k e h1
          ·cases h1
        have hjn:=KU Oj.rd;rw[←CK];clear CK
        go_roundw
        case rel=>exact⟨_,_,fu,Oj⟩
        case measure=>
         rw[hjn,hjo];have akA:=HN.out
         cases r2 with
         |bad k e=>simp[Rs.err,Rs.at_,HZ2.out k e rfl]
         |ok h' k=>
          have:=(HG2 h' k rfl).ij;have:=(HG2 h' k rfl).jl;simp only[Rs.then_ok,Rs.err,Rs.at_,if_true]
          omega)
      |(have:=D1
        have:=D3;have:=D4;refine Rd (rs:=[6]) (by kernel_rfl) (by simp) ?_
        refine Rc (o:=adU) rfl (fun K hK=>?_) Rn)
      |(have:=D1
        have:=D3;refine Rd (rs:=[4]) (by kernel_rfl) (by simp) ?_
        refine Rc (o:=adT) rfl (fun K hK=>?_) Rn)
      |(have:=D1
        refine Rd (rs:=[3]) (by kernel_rfl) (by simp) ?_
        refine Rc (o:=Yi) rfl (fun K hK=>?_) Rn)
      |(have:=D3
        refine Rd (rs:=[1]) (by kernel_rfl) (by simp) ?_
        refine Rc (o:=Yg) rfl (fun K hK=>?_) Rn)
      |fail
   ·have sF:ah l j 4 [124]=false:=by simpa using hk
    have HRR:Hid (F=xY R A c d l (.ok f j) w):=by show _=_;rw[HF,←bE,AZ sF]
    rw[sF]at hsg;have qj:=Hd hsg;clear hsg hk sF;go_wp2_with fail
    go_region_held3 (fun w'=>w'.cell? ⟨R,0,none⟩=some (.slice A n c)∧w'.cell? ⟨R,1,none⟩=some (.int .i64 (j:Nat))∧w'.cell? ⟨R,3,none⟩=some (.int .i64 0))
     (first
       |(go_keep;done)
       |(go_split_ands
         refine⟨?_,?_,?_⟩
         ·(rw[hb5.cell (p:=⟨R,_,none⟩) (by simp;omega)];simpa using c0)
         ·(rw[hb5.cell (p:=⟨R,_,none⟩) (by simp;omega)];simpa using c1)
         ·(rw[hb5.cell (p:=⟨R,_,none⟩) (by simp;omega)];simpa using c3))
       |fail)
     ((go_at_call 151;refine qj.mono ?_;rintro e w5 ⟨rfl,hb5⟩))
    have hb6:Below wr.heap.size wr w5:=((Br _ _).drew).trans hb5;have YB:=kX hb6 XB;have Y7:=kX hb6 X7;have YO:=Hd (HS.only.trans (Ob hb6));have BF:=Hd (dQ.below hb6 hrl);have YI:Hid (x.Is (fun q=>w.heap.size<q∧q≠b7) w5 f):=HI.keep (Kb hb6) (fun _ _ h=>h);clear hb5 hb6 XB X7 dQ HI c0 c1 c3 qj;have XB:=YB;have X7:=Y7;have HO:=YO;have dQ:=BF;have HI:=YI;clear YB Y7 YO BF YI;obtain⟨v0,v1,v2,v3,v4,v5,bW⟩:=q6 X7;obtain⟨u0,u1,u2,u3,u4,u5,eG⟩:=q6 XB;have hvl:=lH X7;have sG:=lH XB;go_wp2_with fail;clear v0 bW v1 v2 v3 v4 v5 u0 eG u1 u2 u3 u4 u5;refine bR (Ki (jD XB)) rfl ?_;rw[HRR];have hRf:=dQ.out;rw[HN]at hRf
    exact ou (x:=x) (r:=.ok f j) (w1:=w1) (fun f' j' h=>by
     obtain⟨rfl,rfl⟩:=bH h
     exact HI.keep Kr (fun q _ h=>by have:=h.1;omega)) (by omega) hRl hRf HO
def Ym:Oper:={dst:=some 40,op:=Op.move (Operand.tmp 1),type:=3,pos := "ftext.go:84",after:=#[],guard:=none}
def Yn:Oper:={dst:=some 41,op:=Op.load 67 (Operand.tmp 7),type:=67,pos := "ftext.go:84",after:=#[],guard:=none}
def Yo:Oper:={dst:=some 42,op:=Op.move (Operand.tmp 5),type:=108,pos := "ftext.go:84",after:=#[],guard:=none}
def Yp:Oper:={dst:=some 43,op:=Op.call {callee:=Callee.value (Operand.tmp 42),args:=#[],argTypes:=#[]},type:=67,pos := "ftext.go:84",after:=#[{on:=2,ground:=Ground.data}],guard:=none}
def adY:Oper:={dst:=some 44,op:=Op.buildSlice 65 2 #[(0,Operand.tmp 41),(1,Operand.tmp 43)],type:=65,pos := "ftext.go:84",after:=#[{on:=1,ground:=Ground.data},{on:=3,ground:=Ground.data}],guard:=none}
def Yq:Oper:={dst:=some 45,op:=Op.build 67 #[(0,Operand.tmp 40),(2,Operand.tmp 44)],type:=67,pos := "ftext.go:84",after:=#[{on:=0,ground:=Ground.data},{on:=4,ground:=Ground.data}],guard:=none}
def adZ:Oper:={dst:=none,op:=Op.store 67 (Operand.tmp 7) (Operand.tmp 45),type:=0,pos := "ftext.go:84",after:=#[{on:=5,ground:=Ground.data},{on:=3,ground:=Ground.chain},{on:=0,ground:=Ground.phase},{on:=1,ground:=Ground.phase},{on:=2,ground:=Ground.phase},{on:=3,ground:=Ground.phase},{on:=4,ground:=Ground.phase},{on:=5,ground:=Ground.phase}],guard:=none}
theorem ahN(R:Nat)(A:Option Addr)(c d:Nat)(l:List Tok)(P:gK)(hF:FnF R A c d l 177 P)(hG:xV l P)(hZ:vw P):FnO R A c d l 3 (Eo l 3 [38] P):=by
 intro i w hi hR hP;obtain⟨w1,hw1⟩:=aj (w.alloc (.cells #[.int .i64 0,.int .i64 0,.int .i64 0,.string ⟨#[]⟩,.slice none 0 0,.slice none 0 0] 67));have hb1:=dz hw1;have hs1:w1.heap.size=w.heap.size+1:=by rw[hw1];simp
 have x1:w1.heap[w.heap.size]?=some (.cells #[.int .i64 0,.int .i64 0,.int .i64 0,.string ⟨#[]⟩,.slice none 0 0,.slice none 0 0] 67 (0,0)):=by rw[hw1];exact eu w _
 have sQ:=hR.below hb1 hR.lt;have hRl:=hR.lt;have hlen:=hP.len;have hcall:=hF i w1 hi sQ (hP.only (Ob hb1));obtain⟨r1,hr1⟩:=aj (P i);rw[←hr1]at hcall;have hmf:∀(fn:Fn)(first cap:Array Value)(w:World),(Instr.makeFunc fn first cap).run Tryz.prog w=.ok (.func fn first cap) w:=fun _ _ _ _=>rfl;obtain⟨n,hn⟩:=aj l.length;obtain⟨r,hr⟩:=aj (Eo l 3 [38] P i);obtain⟨F,HF⟩:=ak (xY R A c d l r w);rw[←hr,←HF];have kI:Hid ((r1.then fun f j=>mH l 3 [38] P l.length f j)=r):=by show _=_;rw[hr,hr1];rfl
 have QU:Hid (∀f j,r1=.ok f j→VP l i f j):=fun f j h=>hG i f j (by rw[←hr1];exact h);have HZ1:Hid (∀j e,r1=.bad j e→e≠0):=fun j e h=>hZ i j e (by rw[←hr1];exact h);have HC:=Hd hcall;have Am:=Hd hF;have HG:=Hd hG;have HZ:=Hd hZ;have HP:=Hd hP;have HN:=Hd hn;have HW1:=Hd hw1;have HO:Hid (Only (fun q=>q=R) w w1):=Ob hb1;have XB:=Hd x1;rw[←hn]at hi hlen;clear hw1 hb1 hR sQ hF hP x1 hcall hr hr1 hG hZ hn;go_in;go_wp2_with fail;rw[←HW1];refine HC.mono ?_;rintro e w2 ⟨x,rfl,hx,hR2,ho2⟩;unfold FV.val;obtain⟨b7,iY⟩:=aj w2.heap.size;obtain⟨w3,hw3⟩:=aj (w2.alloc (.cells #[.int .i64 x.o,.int .i64 x.tn,.int .i64 x.tm,.string x.s,.slice x.Ae x.ne x.ce,.slice x.A x.n x.c] 67));have hal:=dz hw3;have x7:w3.heap[b7]?=some (.cells #[.int .i64 x.o,.int .i64 x.tn,.int .i64 x.tm,.string x.s,.slice x.Ae x.ne x.ce,.slice x.A x.n x.c] 67 (0,0)):=by rw[hw3,iY];exact eu w2 _
 have hlb:=lL (lH XB) ho2.size;have MQ:b7≠R:=by have:=hR2.lt;omega
 have adV:w.heap.size<b7:=by omega
 have JO:Hid (PD R A c d l w b7 3 [38] P r w3 r1 x l.length):=⟨(hal.block w.heap.size hlb).trans ((ho2.block w.heap.size (lH XB) (by omega)).trans XB),x7,fun f j h=>((hx f j h).keep (S':=fun q=>w.heap.size<q∧q≠b7) Kr (fun q hq h=>by have:=lH XB;omega)).keep (Kb hal) (fun _ _ h=>h),hR2.below hal hR2.lt,HO.trans (ho2.trans (Ob hal)),fun f j h=>⟨(QU f j h).jl,by omega⟩,HZ1,kI⟩;have Ao:=Hd hw3;have qM:=Hd iY;clear hx hR2 ho2 hal x7 hw3 iY HC XB HO;go_wp2_with fail;rw[←Ao,←qM]
 go_loopw [32] (fun _ wr=>∃(ra:Rs Fm)(x:FV)(fuel:Nat),PD R A c d l w b7 3 [38] P r wr ra x fuel) (fun _ wr=>agc R l.length wr)
 case atStart=>exact⟨r1,x,l.length,JO⟩
 case round=>
  obtain⟨ra,x,fuel,hS⟩:=hrel;have HS:=Hd hS;have XB:=Hd hS.xb;have X7:=Hd hS.x7;clear hS JO
  rcases ra with⟨jb,eb⟩|⟨f,j⟩
  ·have hx:=HS.nz jb eb rfl;have hxb:(eb==0)=false:=by simpa using hx
   have HRR:Hid (F=xY R A c d l (.bad jb eb) w):=by show _=_;rw[HF,←HS.re];rfl
   obtain⟨c0,c1,-,c3,-⟩:=q4 (show kK wr R A l.length c jb d eb from HS.rd);have hrl:=HS.rd.lt;clear hx;go_wp2_with fail
   go_quiet (fail)
   obtain⟨v0,v1,v2,v3,v4,v5,bW⟩:=q6 X7;obtain⟨u0,u1,u2,u3,u4,u5,eG⟩:=q6 XB;have hvl:=lH X7;have sG:=lH XB;clear c0 c1 c3;go_wp2_with fail;clear v0 bW v1 v2 v3 v4 v5 u0 eG u1 u2 u3 u4 u5;refine bR (Ki (jD (W:=wr.drewN nq) XB)) rfl ?_;rw[HRR];exact ou (x:=x) (r:=.bad jb eb) (w1:=wr) (fun f j h=>nomatch h) sG hRl HS.rd (HS.only.drewN nq)
  ·have hS2:=HS.gd f j rfl;have He:=Hd hS2.2;have hjl:j≤n:=by rw[HN];exact hS2.1
   have hrd:kK wr R A n c j d 0:=by rw[HN];exact HS.rd
   have dQ:=Hd hrd;obtain⟨c0,c1,-,c3,-⟩:=q4 hrd;have hrl:=hrd.lt;have qx:=HP.only HS.only;have hcap:=qx.cap;have aQ:=qx.bU;unfold maxLen at aQ;rw[←HN]at hcap;have hsg:=wB A c j l ⟨#[38]⟩ wr.drew qx.toks.ES qx.len qx.cap qx.bU (by omega);rw[←HN,show ah l j 4 (bs ⟨#[38]⟩)=ah l j 4 [38]from rfl]at hsg;have HI:=Hd (HS.is f j rfl);have bE:Hid (mH l 3 [38] P fuel f j=r):=HS.re;clear hS2 hrd qx
   by_cases hk:ah l j 4 [38]=true
   ·rw[hk]at hsg;have qj:=Hd hsg;have hjlt:j<n:=by rw[HN];exact dL hk
    obtain⟨fu,hfu⟩:∃fu,fuel=fu+1:=⟨fuel-1,by have:=He.out;have:=HN.out;omega⟩;have adW:Hid (((P (j+1)).then fun g k=>.ok (fT 3 [f,g]) k).then (fun g k=>mH l 3 [38] P fu g k)=r):=by show _=_;rw[←bE,hfu,aaW hk]
    have Yk:Hid (l.length≤fu+(j+1)):=by show _≤_;have:=He.out;omega
    clear hsg hk hfu bE He;go_wp2_with fail
    go_region_held3 (fun w'=>w'.cell? ⟨R,0,none⟩=some (.slice A n c)∧w'.cell? ⟨R,1,none⟩=some (.int .i64 (j:Nat))∧w'.cell? ⟨R,3,none⟩=some (.int .i64 0))
     (first
       |(go_keep;done)
       |(go_split_ands
         refine⟨?_,?_,?_⟩
         ·(rw[hb5.cell (p:=⟨R,_,none⟩) (by simp;omega)];simpa using c0)
         ·(rw[hb5.cell (p:=⟨R,_,none⟩) (by simp;omega)];simpa using c1)
         ·(rw[hb5.cell (p:=⟨R,_,none⟩) (by simp;omega)];simpa using c3))
       |fail)
     ((go_at_call 151;refine qj.mono ?_;rintro e w5 ⟨rfl,hb5⟩))
    have hb6:Below wr.heap.size wr w5:=((Br _ _).drew).trans hb5;have YB:=kX hb6 XB;have Y7:=kX hb6 X7;have YO:=Hd (HS.only.trans (Ob hb6));have BF:=Hd (dQ.below hb6 hrl);have YI:Hid (x.Is (fun q=>w.heap.size<q∧q≠b7) w5 f):=HI.keep (Kb hb6) (fun _ _ h=>h);clear hb5 hb6 XB X7 dQ HI c0 c1 c3 qj;have XB:=YB;have X7:=Y7;have HO:=YO;have dQ:=BF;have HI:=YI;clear YB Y7 YO BF YI;obtain⟨-,c1,-,-,fq⟩:=q4 dQ;have ajs:=dQ.lt;go_wp2_with fail;clear c1 fq;obtain⟨w6,mV⟩:=aj (w5.setCell ⟨R,1,none⟩ (.int .i64 ((j:Int)+1)));obtain⟨Wc,hWc⟩:=aj w6.drew
    have Yl:kK Wc R A n c (j+1) d 0:=by
     have h:=dQ.at_ (j+1);rw[show((j+1:Nat):Int)=(j:Int)+1 from by omega]at h;rw[hWc,mV];exact h
    have adX:b7≠(⟨R,1,none⟩:Addr).block:=MQ;have YB:Hid (Wc.heap[w.heap.size]?=some (.cells #[.int .i64 0,.int .i64 0,.int .i64 0,.string ⟨#[]⟩,.slice none 0 0,.slice none 0 0] 67 (0,0))):=by show _=_;rw[hWc,mV];exact(iw w5 ⟨R,1,none⟩ w.heap.size _ (by show w.heap.size≠R;omega)).trans XB
    have Y7:Hid (Wc.heap[b7]?=some (.cells #[.int .i64 x.o,.int .i64 x.tn,.int .i64 x.tm,.string x.s,.slice x.Ae x.ne x.ce,.slice x.A x.n x.c] 67 (0,0))):=by show _=_;rw[hWc,mV];exact(iw w5 ⟨R,1,none⟩ b7 _ adX).trans X7
    have YO:Hid (Only (fun q=>q=R) w Wc):=by show Only _ _ _;rw[hWc,mV];exact(HO.bq (show R=R from rfl) _).drewN 1
    have YI:Hid (x.Is (fun q=>w.heap.size<q∧q≠b7) Wc f):=by show FV.Is _ _ _ _;rw[hWc,mV];exact(HI.keep (aR.refl.set (by omega) _) (fun _ _ h=>h)).keep ⟨lr _,fun _ _ _=>rfl⟩ (fun _ _ h=>h)
    rw[HN]at Yl;have hpc:=Am (j+1) Wc (by have:=HN.out;omega) Yl (HP.only YO);obtain⟨r2,hr2⟩:=aj (P (j+1));rw[←hr2]at hpc;rw[←hr2]at adW;have HG2:Hid (∀g k,r2=.ok g k→VP l (j+1) g k):=fun g k h=>HG (j+1) g k (by rw[←hr2];exact h);have HZ2:Hid (∀k e,r2=.bad k e→e≠0):=fun k e h=>HZ (j+1) k e (by rw[←hr2];exact h);have HPC:=Hd hpc;refine wp_region_held_drew (S:=fun w'=>w'.heap[w.heap.size]?=some (.cells #[.int .i64 0,.int .i64 0,.int .i64 0,.string ⟨#[]⟩,.slice none 0 0,.slice none 0 0] 67 (0,0))) (by kernel_rfl) (by rw[←mV,←hWc];exact YB) (fun hHeld=>?_);rw[←mV,←hWc]at hHeld;rw[←mV,←hWc];clear mV hWc XB X7 HO HI dQ Yl hpc hr2 adX;have XB:=YB;have X7:=Y7;have HO:=YO;have HI:=YI;clear YB Y7 YO YI;refine wpAnyH_take (i:=0) (oi:=Ym) (v:=?_) rfl (by kernel_rfl) (by kernel_rfl) (by kernel_rfl) (fun _ _ _ h=>h) (Or.inl ⟨by rfl,?hy⟩) (by assumption) ?_
    case hy=>
     unfold Ym;intro w0 hSw;clear hSw;go_simp
     (first|done|with_reducible rfl)
    (try simp only[Ym,Act.put,aT,aU,aV]);refine wpAnyH_take (i:=2) (oi:=Yo) (v:=?_) rfl (by kernel_rfl) (by kernel_rfl) (by kernel_rfl) (fun _ _ _ h=>h) (Or.inl ⟨by rfl,?hy⟩) (by assumption) ?_
    case hy=>
     unfold Yo;intro w0 hSw;clear hSw;go_simp
     (first|done|with_reducible rfl)
    (try simp only[Yo,Act.put,aT,aU,aV]);refine Rd (rs:=[1,3]) (by kernel_rfl) (by simp) ?_;refine Rc (o:=Yn) rfl (fun K hK=>?_) (Rc (o:=Yp) rfl (fun K hK=>?_) Rn)
    iterate 4
     all_goals first
      |(unfold Yn
        obtain⟨v0,v1,v2,v3,v4,v5,bW⟩:=q6 X7;go_simp;clear v0 bW v1 v2 v3 v4 v5;refine hK.out _ _ (hHeld) (fun hHeld=>?_);clear hK K;try simp only[Act.put,aT,aU,aV]
        obtain⟨D1,-⟩:∃n:Nat,n=n:=⟨0,rfl⟩)
      |(unfold Yp
        go_simp;(with_reducible refine(HPC.out).mono ?_);rintro e Wc ⟨y,rfl,hy,hR8,FJ⟩;unfold FV.val;have x78:=(FJ.block b7 (lH X7) MQ).trans X7;refine hK.out _ _ ((FJ.block w.heap.size (lH XB) (by omega)).trans XB) (fun hHeld=>?_);clear hK K;(try simp only[Act.put,aT,aU,aV]);have YB:=Hd ((FJ.block w.heap.size (lH XB) (by omega)).trans XB);have Y7:=Hd x78;have YO:=Hd (HO.trans FJ);have YI:Hid (x.Is (fun q=>w.heap.size<q∧q≠b7) Wc f):=HI.keep (aR.cO FJ (by omega)) (fun _ _ h=>h);have HY:Hid (∀g k,r2=.ok g k→y.Is (fun q=>w.heap.size<q∧q≠b7) Wc g):=fun g k h=>(hy g k h).keep Kr (fun q _ h=>by have:=lH X7;omega);have dQ:=Hd hR8;clear hy hR8 FJ x78 XB X7 HO HI;have XB:=YB;have X7:=Y7;have HO:=YO;have HI:=YI;clear YB Y7 YO YI
        obtain⟨D3,-⟩:∃n:Nat,n=n:=⟨0,rfl⟩)
      |(unfold adY
        go_simp;obtain⟨g,hg⟩:=aj Wc.heap.size;obtain⟨W2,hW2⟩:=aj (Wc.alloc (.cells #[.int .i64 x.o,.int .i64 x.tn,.int .i64 x.tm,.string x.s,.slice x.Ae x.ne x.ce,.slice x.A x.n x.c,.int .i64 y.o,.int .i64 y.tn,.int .i64 y.tm,.string y.s,.slice y.Ae y.ne y.ce,.slice y.A y.n y.c] 67));have hal:=dz hW2;have hrow:W2.heap[g]?=some (.cells (x.cells++y.cells).toArray 67 (0,0)):=by rw[hW2,hg];exact eu Wc _
        have x72:=(hal.block b7 (lH X7)).trans X7;have Ep:g≠b7:=by have:=lH X7;omega
        have hgw:w.heap.size<g:=by have:=lH XB;omega
        rw[←hW2,←hg];refine hK.out _ _ ((hal.block w.heap.size (lH XB)).trans XB) (fun hHeld=>?_);clear hK K;(try simp only[Act.put,aT,aU,aV]);replace XB:=kX hal XB;replace X7:=Hd x72;replace HO:=Hd (HO.trans (Ob hal));replace dQ:=Hd (dQ.below hal dQ.lt);have HIS:Hid (∀h k,r2=.ok h k→(FV.mk 3 0 0 ⟨#[]⟩ none 0 0 (some ⟨g,0,none⟩) 2 2).Is (fun q=>w.heap.size<q∧q≠b7) W2 (fT 3 [f,h])):=fun h k hr=>FV.FH (HI.keep (Kb hal) (fun _ _ h=>h)) ((HY h k hr).keep (Kb hal) (fun _ _ h=>h)) ⟨hgw,Ep⟩ hrow;clear hal hrow x72 HI HY hW2 hg
        obtain⟨D4,-⟩:∃n:Nat,n=n:=⟨0,rfl⟩)
      |(unfold adZ
        obtain⟨v0,v1,v2,v3,v4,v5,bW⟩:=q6 X7;go_simp;clear v0 bW v1 v2 v3 v4 v5;refine hK.out _ _ ((jH (by omega)).trans hHeld) (fun hHeld=>?_);clear hK K;try simp only[Act.put,aT,aU,aV]
        obtain⟨D6,-⟩:∃n:Nat,n=n:=⟨0,rfl⟩)
      |fail
     all_goals first
      |have:=T5
      |(have:=D1
        have:=D3;have:=D4;refine wpAnyH_take (i:=5) (oi:=Yq) (v:=?_) rfl (by kernel_rfl) (by kernel_rfl) (by kernel_rfl) (fun _ _ _ h=>h) (Or.inl ⟨by rfl,?hy⟩) (by assumption) ?_
        case hy=>
         unfold Yq;intro w0 hSw;clear hSw;go_simp
         (first|done|with_reducible rfl)
        try simp only[Yq,Act.put,aT,aU,aV]
        obtain⟨T5,-⟩:∃n:Nat,n=n:=⟨0,rfl⟩)
      |skip
     all_goals first
      |(have:=D1
        have:=D3;have:=D4;have:=D6;refine wpAnyH_done (by kernel_rfl) ?_ _;clear hHeld;have hjo:=KU HS.rd;have vE:=HG2;go_wp2_with fail;obtain⟨W9,CK⟩:=aj (((((((W2.setCell ⟨b7,0,none⟩ (.int .i64 3)).setCell ⟨b7,1,none⟩ (.int .i64 0)).setCell ⟨b7,2,none⟩ (.int .i64 0)).setCell ⟨b7,3,none⟩ (.string ⟨#[]⟩)).setCell ⟨b7,4,none⟩ (.slice none 0 0)).setCell ⟨b7,5,none⟩ (.slice (some ⟨g,0,none⟩) 2 2)))
        have Oj:PD R A c d l w b7 3 [38] P r W9 (r2.then fun g k=>.ok (fT 3 [f,g]) k) (FV.mk 3 0 0 ⟨#[]⟩ none 0 0 (some ⟨g,0,none⟩) 2 2) fu:=by
         refine⟨?_,?_,fun q k h=>?_,?_,?_,fun q k h=>?_,fun k e h=>?_,adW⟩
         ·rw[CK];exact(jH (by omega)).trans XB
         ·rw[CK];exact jD X7
         ·obtain⟨h',k',h1,h2⟩:=then_ok h;obtain⟨rfl,rfl⟩:=bH h2;rw[CK];exact(HIS h' k' h1).keep (mO Kr (by simp)) (fun _ _ h=>h)
         ·rw[CK];have hR0:kK ((((((W2.setCell ⟨b7,0,none⟩ (.int .i64 3)).setCell ⟨b7,1,none⟩ (.int .i64 0)).setCell ⟨b7,2,none⟩ (.int .i64 0)).setCell ⟨b7,3,none⟩ (.string ⟨#[]⟩)).setCell ⟨b7,4,none⟩ (.slice none 0 0)).setCell ⟨b7,5,none⟩ (.slice (some ⟨g,0,none⟩) 2 2)) R A l.length c r2.at_ d r2.err:=(jH (Ne.symm MQ)).trans dQ;cases r2<;>exact hR0
         ·rw[CK];exact o9 HO (Nat.le_of_lt adV)
         ·obtain⟨h',k',h1,h2⟩:=then_ok h;obtain⟨rfl,rfl⟩:=bH h2;have:=HG2 h' k' h1;have:=Yk.out;exact⟨(HG2 h' k' h1).jl,by have:=(HG2 h' k' h1).ij;omega⟩
         ·rcases dh h with h1|⟨x,k,-,h1⟩
          ·exact HZ2 k e h1
          ·cases h1
        have hjn:=KU Oj.rd;rw[←CK];clear CK
        go_roundw
        case rel=>exact⟨_,_,fu,Oj⟩
        case measure=>
         rw[hjn,hjo];have akA:=HN.out
         cases r2 with
         |bad k e=>simp[Rs.err,Rs.at_,HZ2.out k e rfl]
         |ok h' k=>
          have:=(HG2 h' k rfl).ij;have:=(HG2 h' k rfl).jl;simp only[Rs.then_ok,Rs.err,Rs.at_,if_true]
          omega)
      |(have:=D1
        have:=D3;have:=D4;refine Rd (rs:=[6]) (by kernel_rfl) (by simp) ?_
        refine Rc (o:=adZ) rfl (fun K hK=>?_) Rn)
      |(have:=D1
        have:=D3;refine Rd (rs:=[4]) (by kernel_rfl) (by simp) ?_
        refine Rc (o:=adY) rfl (fun K hK=>?_) Rn)
      |(have:=D1
        refine Rd (rs:=[3]) (by kernel_rfl) (by simp) ?_
        refine Rc (o:=Yp) rfl (fun K hK=>?_) Rn)
      |(have:=D3
        refine Rd (rs:=[1]) (by kernel_rfl) (by simp) ?_
        refine Rc (o:=Yn) rfl (fun K hK=>?_) Rn)
      |fail
   ·have sF:ah l j 4 [38]=false:=by simpa using hk
    have HRR:Hid (F=xY R A c d l (.ok f j) w):=by show _=_;rw[HF,←bE,AZ sF]
    rw[sF]at hsg;have qj:=Hd hsg;clear hsg hk sF;go_wp2_with fail
    go_region_held3 (fun w'=>w'.cell? ⟨R,0,none⟩=some (.slice A n c)∧w'.cell? ⟨R,1,none⟩=some (.int .i64 (j:Nat))∧w'.cell? ⟨R,3,none⟩=some (.int .i64 0))
     (first
       |(go_keep;done)
       |(go_split_ands
         refine⟨?_,?_,?_⟩
         ·(rw[hb5.cell (p:=⟨R,_,none⟩) (by simp;omega)];simpa using c0)
         ·(rw[hb5.cell (p:=⟨R,_,none⟩) (by simp;omega)];simpa using c1)
         ·(rw[hb5.cell (p:=⟨R,_,none⟩) (by simp;omega)];simpa using c3))
       |fail)
     ((go_at_call 151;refine qj.mono ?_;rintro e w5 ⟨rfl,hb5⟩))
    have hb6:Below wr.heap.size wr w5:=((Br _ _).drew).trans hb5;have YB:=kX hb6 XB;have Y7:=kX hb6 X7;have YO:=Hd (HS.only.trans (Ob hb6));have BF:=Hd (dQ.below hb6 hrl);have YI:Hid (x.Is (fun q=>w.heap.size<q∧q≠b7) w5 f):=HI.keep (Kb hb6) (fun _ _ h=>h);clear hb5 hb6 XB X7 dQ HI c0 c1 c3 qj;have XB:=YB;have X7:=Y7;have HO:=YO;have dQ:=BF;have HI:=YI;clear YB Y7 YO BF YI;obtain⟨v0,v1,v2,v3,v4,v5,bW⟩:=q6 X7;obtain⟨u0,u1,u2,u3,u4,u5,eG⟩:=q6 XB;have hvl:=lH X7;have sG:=lH XB;go_wp2_with fail;clear v0 bW v1 v2 v3 v4 v5 u0 eG u1 u2 u3 u4 u5;refine bR (Ki (jD XB)) rfl ?_;rw[HRR];have hRf:=dQ.out;rw[HN]at hRf
    exact ou (x:=x) (r:=.ok f j) (w1:=w1) (fun f' j' h=>by
     obtain⟨rfl,rfl⟩:=bH h
     exact HI.keep Kr (fun q _ h=>by have:=h.1;omega)) (by omega) hRl hRf HO
end Go.Proofs.YtkhoeoilamddaaaGreatDoor
