/- Walks and plain words: SwA SwB SwC. -/
import Derived.Test.YtkhoeoilamddaaaGreatDoorYMwE
namespace Go.Proofs.YtkhoeoilamddaaaGreatDoor
open Go.RowKit
set_option linter.unusedVariables false
set_option maxRecDepth 100000
set_option maxHeartbeats 8000000
def TXQ(R:BE)(w:World)(e:Ending)(w':World):Prop:=∃S:ByteArray,e=.returned (.agg #[.string S,.int .i64 R.2])∧(R.2=0→bs S=R.1)∧Below w.heap.size w w'
def amE(t:Tm):Prop:=∀A c W,zx W A c t→Calls Tryz.prog 66 #[t.val A c] W fun e w'=>e=.returned (.tuple #[.string ⟨(aH t).1.toArray⟩,.int .i64 (aH t).2])∧Below W.heap.size W w'
theorem amv{α:Type}{f:α→BE}{l:List α}{x:Bs}(h:64<l.length):(rJ f l (x,0)).2=18:=by
 unfold rJ;rw[iP ⟨rfl,h⟩,sW (by decide)]
theorem amt{α:Type}{f:α→BE}{l:List α}{x:Bs}(h:¬64<l.length):rJ f l (x,0)=wN f l (x,0):=by
 unfold rJ;rw[iN (fun h9=>h h9.2)]
theorem amo{α:Type}{f:α→BE}{l:List α}{x:Bs}{k:Nat}{t:α}{R:BE}(h:wN f (l.drop k) (x,0)=R)(hk:l[k]?=some t)(he:(f t).2≠0):R.2=(f t).2:=by
 rw[DR hk]at h;have e:mK (x,0) (f t)=(x,(f t).2):=by unfold mK;rw[iN (fun h9=>h9 rfl),iP he]
 rw[e,sW he]at h;rw[←h]
theorem ams{α:Type}{f:α→BE}{l:List α}{x:Bs}{k:Nat}{t:α}{R:BE}(h:wN f (l.drop k) (x,0)=R)(hk:l[k]?=some t)(he:(f t).2=0):wN f (l.drop (k+1)) (x++(f t).1,0)=R:=by
 rw[DR hk]at h;have e:mK (x,0) (f t)=(x++(f t).1,0):=by unfold mK;rw[iN (fun h9=>h9 rfl),iN (fun h9=>h9 he)]
 rw[←e];exact h
theorem amO{W:World}{b:Nat}{u0 u1 v0 v1:Value}{T:TypeId}(h:W.heap[b]?=some (.cells #[u0,u1] T (0,0))):((W.setCell ⟨b,0,none⟩ v0).setCell ⟨b,1,none⟩ v1).heap[b]?=some (.cells #[v0,v1] T (0,0)):=by
 simp[World.setCell,Array.getElem?_modify,h]
theorem amS{W:World}{b q:Nat}{v0 v1:Value}(h:q≠b):((W.setCell ⟨b,0,none⟩ v0).setCell ⟨b,1,none⟩ v1).heap[q]?=W.heap[q]?:=by
 rw[iw _ ⟨b,1,none⟩ q _ h,iw _ ⟨b,0,none⟩ q _ h]
theorem amJ{W w:World}{b:Nat}{v0 v1:Value}(h:Below w.heap.size w W)(hb:w.heap.size≤b):Below w.heap.size w ((W.setCell ⟨b,0,none⟩ v0).setCell ⟨b,1,none⟩ v1):=(h.setCell (p:=⟨b,0,none⟩) hb _).setCell (p:=⟨b,1,none⟩) hb _
theorem amn{R:BE}{w W:World}{S:ByteArray}{E:Int}{v0 v1:Value}(hb:Below w.heap.size w W)(hR:R.2=E)(h:E=0→bs S=R.1):TXQ R w (.returned (.agg #[.string S,.int .i64 E])) ((W.setCell ⟨w.heap.size,0,none⟩ v0).setCell ⟨w.heap.size,1,none⟩ v1):=
 ⟨S,by rw[hR],fun h2=>h (by rw[←hR];exact h2),amJ hb (lr _)⟩
section
variable {fn:Func} {p:Tmp} {tmps:Array Value} {W:World} {b:Nat} {u0 u1 v0 v1:Value}
theorem rcX(h:W.heap[b]?=some (.cells #[u0,u1] 95 (0,0)))(hr:fn.results=#[.cell p 95]:=by rfl)(hp:tmps.getD p undef=.pointer (some ⟨b,0,none⟩):=by rfl) :
 (results fn tmps).run Tryz.prog ((W.setCell ⟨b,0,none⟩ v0).setCell ⟨b,1,none⟩ v1)=.ok (.agg #[v0,v1]) ((W.setCell ⟨b,0,none⟩ v0).setCell ⟨b,1,none⟩ v1):=
 results_cell_row hr tmps _ b 95 _ (0,0) _ hp (amO h) Tryz.underlying95 rfl (by kernel_rfl)
end
def RIs:Prop:=∀s W,s.size≤maxLen→Calls Tryz.prog 63 #[.string s] W fun e w'=>e=.returned (.bool (isName (bs s)))∧Below W.heap.size W w'
theorem amr(s:ByteArray)(word:ByteArray)(ts:List Tm)(A:Option Addr)(c:Nat)(w:World)(hrow:fK gB 4 w (.slice A ts.length c) ts)(hX:∀t∈ts,amE t)(hs:s.size≤800000000)(hw:word.size≤10) :
 Calls Tryz.prog 35 #[.string s,.string word,.slice A ts.length c] w (TXQ (rJ (xM (bs word)) ts (bs s,0)) w):=by
 obtain⟨R,hR⟩:=aj (rJ (xM (bs word)) ts (bs s,0));obtain⟨F,HF⟩:=ak (TXQ R w);rw[←hR,←HF];obtain⟨A',c',he,hcap,aQ,hrow⟩:=hrow
 injection he with he1 _ he2
 subst he1 he2;obtain⟨n,HN⟩:=ak ts.length;rw[←HN]at hcap⊢;unfold maxLen at aQ;obtain⟨w1,hw1⟩:=aj (w.alloc (.cells #[.string ⟨#[]⟩,.int .i64 0] 95));have hb1:=dz hw1;have yJ:=jZ hw1 rfl;have HR:=Hd hR;have iF:=Hd hrow;have HXT:=Hd hX;clear hX;have HB1:=Hd hb1;have HW1:=Hd hw1;have hwl:w.heap.size<w1.heap.size:=by rw[hw1];simp
 clear hR hrow hb1 hw1
 by_cases hbig:64<n
 ·have h64:(64:Int)<(n:Int):=by omega
  have HBG:=Hd hbig;clear hbig;go_in;go_wp2_with fail;refine bR (results_cell_row (t:=95) (fr:=(0,0)) rfl _ _ w.heap.size _ _ rfl (eu w _) Tryz.underlying95 rfl (by kernel_rfl)) rfl ?_;rw[HF];have h2:R.2=18:=by rw[HR];exact amv (by rw[←HN];exact HBG)
  exact⟨⟨#[]⟩,by rw[h2],(fun h=>absurd (h2.symm.trans h) (by decide)),(Br _ _).alloc (lr _) _⟩
 have h64:¬(64:Int)<(n:Int):=by omega
 have HRF:Hid (wN (xM (bs word)) (ts.drop 0) (bs s,0)=R):=by show _=_;rw[HR,amt (by rw[←HN];exact hbig),List.drop_zero]
 clear hbig HR;go_in;go_wp2_with fail;rw[←HW1]
 go_loopw [0,7,8,9] (fun sv iv _ _ wr=>∃(k:Nat)(s':ByteArray),k≤n∧sv=.string s'∧iv=.int .i64 k∧Below w1.heap.size w1 wr∧wN (xM (bs word)) (ts.drop k) (bs s',0)=R∧s'.size≤800000000+70000*k) (fun _ i _ _ _=>n-(intOf i).toNat)
 case atStart=>exact⟨0,s,zl _,rfl,rfl,Br _ _,HRF,by omega⟩
 case round=>
  obtain⟨k,s',hk,rfl,rfl,hb,hre,hsz⟩:=hrel;have HB:=Hd hb;have bE:=Hd hre;have hwr:=hb.size;clear hb hre
  by_cases hkn:k<n
  ·obtain⟨q,hq⟩:∃q,ts[k]?=some q:=⟨_,gG (by have:=HN.out;omega)⟩
   rcases iF.out with h9|⟨g,o,rfl,hg,hrow⟩
   ·rw[h9]at hq;simp at hq
   have hbw:Below w.heap.size w wr:=HB1.trans (HB.mono (by omega));have hqm:=mG hq;have hgr:g<wr.heap.size:=by omega
   have hat:=gB.below hbw rfl hg (hrow k q hq);have HQ:=Hd hq;have hk0:(0:Int)≤(k:Int):=by omega
   have hk1:(k:Int)<(n:Int):=by omega
   have h1:s'.size≤900000000:=by omega
   clear hq hrow hbw;have hqx:=HXT q hqm;obtain⟨y0,y1,y2,A5,c5,y3,hV⟩:=hat.open;have hc:=hqx A5 c5 wr hV;obtain⟨n5,hn5⟩:=aj q.kids.length;unfold Tm.val at hc;rw[←hn5]at y3 hc;obtain⟨S,hS⟩:∃S:ByteArray,S=⟨(aH q).1.toArray⟩:=⟨_,rfl⟩;obtain⟨e1,he1⟩:=aj (aH q).2;have hsl:S.size≤65536:=by rw[hS];exact og q
   have HTQ:Hid ((xM (bs word)) q=if e1≠0 then([],e1)else(bs word++[32]++bs S++AJ,0)):=by show _=_;rw[he1,hS];rfl
   rw[←hS,←he1]at hc;have HC:=Hd hc;clear hqm hqx hat hV hn5 hc hS he1
   by_cases he:e1=0
   ·subst he;go_wp2_with fail;refine HC.mono ?_;rintro e w2 ⟨rfl,hb2⟩;have HB2:=Hd (HB.trans (hb2.mono hwr));clear hb2 y0 y1 y2 y3;go_wp2_with fail
    go_round
    case rel=>
     refine⟨k+1,_,by omega,rfl,by go_num,HB2,?_,?_⟩
     ·have h:=ams bE HQ (by rw[HTQ];rfl);rw[HTQ]at h;rw[←h];simp[bs,AJ]
     ·simp only[bA];have z0:(⟨#[32]⟩:ByteArray).size=1:=rfl;have z1:(⟨#[32,59,10]⟩:ByteArray).size=3:=rfl;omega
    case measure=>simp[intOf];omega
   ·have heb:(e1 != 0)=true:=by simpa using he
    have HE:=Hd he;clear he;go_wp2_with fail;refine HC.mono ?_;rintro e w2 ⟨rfl,hb2⟩;have HB2:=Hd (HB.trans (hb2.mono hwr));have X2:=kX HB2 yJ;have z0:=pG X2 0 rfl;have z1:=pG X2 1 rfl;have zf_:=frz X2;clear hb2 y0 y1 y2 y3;go_wp2_with fail;clear z0 z1 zf_;refine bR (rcX X2) rfl ?_;rw[HF];exact amn (HB1.trans (HB2.mono (by omega))) (by rw[amo bE HQ (by rw[HTQ,iP HE.out];exact HE),HTQ,iP HE.out]) (fun h=>absurd h HE)
  ·have hk1:¬(k:Int)<(n:Int):=by omega
   obtain rfl:k=n:=by omega
   have X2:=kX HB yJ;have z0:=pG X2 0 rfl;have z1:=pG X2 1 rfl;have zf_:=frz X2;clear hkn;go_wp2_with fail;clear z0 z1 zf_;refine bR (rcX X2) rfl ?_;rw[HF];have h:=bE.out;rw[HN,List.drop_length]at h;exact amn (HB1.trans (HB.mono (by omega))) (by rw[←h];rfl) (fun _=>by rw[←h];rfl)
theorem amA(s:ByteArray)(word:ByteArray)(ts:List Df)(A:Option Addr)(c:Nat)(w:World)(hrow:fK uD 5 w (.slice A ts.length c) ts)(hI:RIs)(hNm:∀d∈ts,d.name.size≤maxLen)(hX:∀d∈ts,amE d.tm)(hs:s.size≤800000000)(hw:word.size≤10) :
 Calls Tryz.prog 34 #[.string s,.string word,.slice A ts.length c] w (TXQ (rJ (pQ (bs word)) ts (bs s,0)) w):=by
 obtain⟨R,hR⟩:=aj (rJ (pQ (bs word)) ts (bs s,0));obtain⟨F,HF⟩:=ak (TXQ R w);rw[←hR,←HF];obtain⟨A',c',he,hcap,aQ,hrow⟩:=hrow
 injection he with he1 _ he2
 subst he1 he2;obtain⟨n,HN⟩:=ak ts.length;rw[←HN]at hcap⊢;unfold maxLen at aQ;obtain⟨w1,hw1⟩:=aj (w.alloc (.cells #[.string ⟨#[]⟩,.int .i64 0] 95));have hb1:=dz hw1;have yJ:=jZ hw1 rfl;have HR:=Hd hR;have iF:=Hd hrow;have HXT:=Hd hX;have xR:=Hd hNm;have HIS:=Hd hI;clear hX hNm hI;have HB1:=Hd hb1;have HW1:=Hd hw1;have hwl:w.heap.size<w1.heap.size:=by rw[hw1];simp
 clear hR hrow hb1 hw1
 by_cases hbig:64<n
 ·have h64:(64:Int)<(n:Int):=by omega
  have HBG:=Hd hbig;clear hbig;go_in;go_wp2_with fail;refine bR (results_cell_row (t:=95) (fr:=(0,0)) rfl _ _ w.heap.size _ _ rfl (eu w _) Tryz.underlying95 rfl (by kernel_rfl)) rfl ?_;rw[HF];have h2:R.2=18:=by rw[HR];exact amv (by rw[←HN];exact HBG)
  exact⟨⟨#[]⟩,by rw[h2],(fun h=>absurd (h2.symm.trans h) (by decide)),(Br _ _).alloc (lr _) _⟩
 have h64:¬(64:Int)<(n:Int):=by omega
 have HRF:Hid (wN (pQ (bs word)) (ts.drop 0) (bs s,0)=R):=by show _=_;rw[HR,amt (by rw[←HN];exact hbig),List.drop_zero]
 clear hbig HR;go_in;go_wp2_with fail;rw[←HW1]
 go_loopw [0,7,8,9] (fun sv iv _ _ wr=>∃(k:Nat)(s':ByteArray),k≤n∧sv=.string s'∧iv=.int .i64 k∧Below w1.heap.size w1 wr∧wN (pQ (bs word)) (ts.drop k) (bs s',0)=R∧s'.size≤800000000+70000*k) (fun _ i _ _ _=>n-(intOf i).toNat)
 case atStart=>exact⟨0,s,zl _,rfl,rfl,Br _ _,HRF,by omega⟩
 case round=>
  obtain⟨k,s',hk,rfl,rfl,hb,hre,hsz⟩:=hrel;have HB:=Hd hb;have bE:=Hd hre;have hwr:=hb.size;clear hb hre
  by_cases hkn:k<n
  ·obtain⟨q,hq⟩:∃q,ts[k]?=some q:=⟨_,gG (by have:=HN.out;omega)⟩
   rcases iF.out with h9|⟨g,o,rfl,hg,hrow⟩
   ·rw[h9]at hq;simp at hq
   have hbw:Below w.heap.size w wr:=HB1.trans (HB.mono (by omega));have hqm:=mG hq;have hgr:g<wr.heap.size:=by omega
   have hat:=uD.below hbw g (o+k*5) q hg (hrow k q hq);have HQ:=Hd hq;have hk0:(0:Int)≤(k:Int):=by omega
   have hk1:(k:Int)<(n:Int):=by omega
   have h1:s'.size≤900000000:=by omega
   clear hq hrow hbw;have HAT:=Hd hat;have y0:=hat.1;have hnm:=xR q hqm;have HI:=Hd (HIS q.name wr hnm);have HM:=Hd hqm;clear hat hqm hnm;cases hi:isName (bs q.name)
   ·rw[hi]at HI;have HTQ:Hid ((pQ (bs word)) q=([],12)):=by show _=_;exact iP hi
    clear hi;go_wp2_with fail;refine HI.mono ?_;rintro e w2 ⟨rfl,hb2⟩;have HB2:=Hd (HB.trans (hb2.mono hwr));have X2:=kX HB2 yJ;have z0:=pG X2 0 rfl;have z1:=pG X2 1 rfl;have zf_:=frz X2;clear hb2 y0;go_wp2_with fail;clear z0 z1 zf_;refine bR (rcX X2) rfl ?_;rw[HF];exact amn (HB1.trans (HB2.mono (by omega))) (by rw[amo bE HQ (by rw[HTQ];show(12:Int)≠0;decide),HTQ]) (fun h=>absurd h (by decide))
   ·rw[hi]at HI;have hin:¬isName (bs q.name)=false:=by rw[hi];decide
    have am9:q.name.size≤24:=by have:=AP hi;rwa [aC]at this
    obtain⟨S,hS⟩:∃S:ByteArray,S=⟨(aH q.tm).1.toArray⟩:=⟨_,rfl⟩;obtain⟨e1,HE1⟩:=ak (aH q.tm).2;have hsl:S.size≤65536:=by rw[hS];exact og q.tm
    have HTQ:Hid ((pQ (bs word)) q=if e1≠0 then([],e1)else(bs word++[32]++bs q.name++[32,58,61,32]++bs S++AJ,0)):=by show _=_;rw[HE1,hS];exact iN hin
    have fA:=Hd hS;clear hi hin hS;go_wp2_with fail;refine HI.mono ?_;rintro e w2 ⟨rfl,hb2⟩;have kJ:=Hd hb2;have HB2:=Hd (HB.trans (hb2.mono hwr));have hg2:g<w2.heap.size:=lL hgr hb2.size;have HA2:=Hd (uD.below hb2 g (o+k*5) q hgr HAT);obtain⟨y2,y3,y4,A5,c5,y5,hV⟩:=HA2.2.open;have hc:=HXT q HM A5 c5 w2 hV;obtain⟨n5,hn5⟩:=aj q.tm.kids.length;unfold Tm.val at hc;rw[←hn5]at y5 hc;rw[←fA,←HE1]at hc;clear hV hn5;have HC:=Hd hc;clear hb2 y0 hc
    by_cases he:e1=0
    ·subst he;go_wp2_with fail;refine HC.mono ?_;rintro e w3 ⟨rfl,hb3⟩;have y0:=(uD.below hb3 g (o+k*5) q hg2 HA2).1;have HB3:=kB HB2 hb3;clear hb3 y2 y3 y4 y5;go_wp2_with fail
     go_round
     case rel=>
      refine⟨k+1,_,by omega,rfl,by go_num,HB3,?_,?_⟩
      ·have h:=ams bE HQ (by rw[HTQ];rfl);rw[HTQ]at h;rw[←h];simp[bs,AJ]
      ·simp only[bA];have z0:(⟨#[32]⟩:ByteArray).size=1:=rfl;have z1:(⟨#[32,58,61,32]⟩:ByteArray).size=4:=rfl;have z2:(⟨#[32,59,10]⟩:ByteArray).size=3:=rfl;omega
     case measure=>simp[intOf];omega
    ·have heb:(e1 != 0)=true:=by simpa using he
     have HE:=Hd he;clear he;go_wp2_with fail;refine HC.mono ?_;rintro e w3 ⟨rfl,hb3⟩;have HB3:=kB HB2 hb3;have X2:=kX HB3 yJ;have z0:=pG X2 0 rfl;have z1:=pG X2 1 rfl;have zf_:=frz X2;clear hb3 y2 y3 y4 y5;go_wp2_with fail;clear z0 z1 zf_;refine bR (rcX X2) rfl ?_;rw[HF];exact amn (HB1.trans (HB3.mono (by omega))) (by rw[amo bE HQ (by rw[HTQ,iP HE.out];exact HE),HTQ,iP HE.out]) (fun h=>absurd h HE)
  ·have hk1:¬(k:Int)<(n:Int):=by omega
   obtain rfl:k=n:=by omega
   have X2:=kX HB yJ;have z0:=pG X2 0 rfl;have z1:=pG X2 1 rfl;have zf_:=frz X2;clear hkn;go_wp2_with fail;clear z0 z1 zf_;refine bR (rcX X2) rfl ?_;rw[HF];have h:=bE.out;rw[HN,List.drop_length]at h;exact amn (HB1.trans (HB.mono (by omega))) (by rw[←h];rfl) (fun _=>by rw[←h];rfl)
def amT(f:Fm):Prop:=∀Ae ce A c W,pO W Ae ce A c f→Calls Tryz.prog 67 #[f.val Ae ce A c] W fun e w'=>e=.returned (.tuple #[.string ⟨(dX f).1.toArray⟩,.int .i64 (dX f).2])∧Below W.heap.size W w'
theorem amG(s:ByteArray)(ts:List Sp)(A:Option Addr)(c:Nat)(w:World)(hrow:fK Fw 7 w (.slice A ts.length c) ts)(hI:RIs)(hNm:∀d∈ts,d.name.size≤maxLen)(hX:∀d∈ts,amT d.fm)(hs:s.size≤800000000) :
 Calls Tryz.prog 36 #[.string s,.slice A ts.length c] w (TXQ (rJ Kl ts (bs s,0)) w):=by
 obtain⟨R,hR⟩:=aj (rJ Kl ts (bs s,0));obtain⟨F,HF⟩:=ak (TXQ R w);rw[←hR,←HF];obtain⟨A',c',he,hcap,aQ,hrow⟩:=hrow
 injection he with he1 _ he2
 subst he1 he2;obtain⟨n,HN⟩:=ak ts.length;rw[←HN]at hcap⊢;unfold maxLen at aQ;obtain⟨w1,hw1⟩:=aj (w.alloc (.cells #[.string ⟨#[]⟩,.int .i64 0] 95));have hb1:=dz hw1;have yJ:=jZ hw1 rfl;have HR:=Hd hR;have iF:=Hd hrow;have HXT:=Hd hX;have xR:=Hd hNm;have HIS:=Hd hI;clear hX hNm hI;have HB1:=Hd hb1;have HW1:=Hd hw1;have hwl:w.heap.size<w1.heap.size:=by rw[hw1];simp
 clear hR hrow hb1 hw1
 by_cases hbig:64<n
 ·have h64:(64:Int)<(n:Int):=by omega
  have HBG:=Hd hbig;clear hbig;go_in;go_wp2_with fail;refine bR (results_cell_row (t:=95) (fr:=(0,0)) rfl _ _ w.heap.size _ _ rfl (eu w _) Tryz.underlying95 rfl (by kernel_rfl)) rfl ?_;rw[HF];have h2:R.2=18:=by rw[HR];exact amv (by rw[←HN];exact HBG)
  exact⟨⟨#[]⟩,by rw[h2],(fun h=>absurd (h2.symm.trans h) (by decide)),(Br _ _).alloc (lr _) _⟩
 have h64:¬(64:Int)<(n:Int):=by omega
 have HRF:Hid (wN Kl (ts.drop 0) (bs s,0)=R):=by show _=_;rw[HR,amt (by rw[←HN];exact hbig),List.drop_zero]
 clear hbig HR;go_in;go_wp2_with fail;rw[←HW1]
 go_loopw [0,5,6,7] (fun sv iv _ _ wr=>∃(k:Nat)(s':ByteArray),k≤n∧sv=.string s'∧iv=.int .i64 k∧Below w1.heap.size w1 wr∧wN Kl (ts.drop k) (bs s',0)=R∧s'.size≤800000000+70000*k) (fun _ i _ _ _=>n-(intOf i).toNat)
 case atStart=>exact⟨0,s,zl _,rfl,rfl,Br _ _,HRF,by omega⟩
 case round=>
  obtain⟨k,s',hk,rfl,rfl,hb,hre,hsz⟩:=hrel;have HB:=Hd hb;have bE:=Hd hre;have hwr:=hb.size;clear hb hre
  by_cases hkn:k<n
  ·obtain⟨q,hq⟩:∃q,ts[k]?=some q:=⟨_,gG (by have:=HN.out;omega)⟩
   rcases iF.out with h9|⟨g,o,rfl,hg,hrow⟩
   ·rw[h9]at hq;simp at hq
   have hbw:Below w.heap.size w wr:=HB1.trans (HB.mono (by omega));have hqm:=mG hq;have hgr:g<wr.heap.size:=by omega
   have hat:=Fw.below hbw g (o+k*7) q hg (hrow k q hq);have HQ:=Hd hq;have hk0:(0:Int)≤(k:Int):=by omega
   have hk1:(k:Int)<(n:Int):=by omega
   have h1:s'.size≤900000000:=by omega
   clear hq hrow hbw;have HAT:=Hd hat;have y0:=hat.1;have hnm:=xR q hqm;have HI:=Hd (HIS q.name wr hnm);have HM:=Hd hqm;clear hat hqm hnm;cases hi:isName (bs q.name)
   ·rw[hi]at HI;have HTQ:Hid (Kl q=([],12)):=by show _=_;exact iP hi
    clear hi;go_wp2_with fail;refine HI.mono ?_;rintro e w2 ⟨rfl,hb2⟩;have HB2:=Hd (HB.trans (hb2.mono hwr));have X2:=kX HB2 yJ;have z0:=pG X2 0 rfl;have z1:=pG X2 1 rfl;have zf_:=frz X2;clear hb2 y0;go_wp2_with fail;clear z0 z1 zf_;refine bR (rcX X2) rfl ?_;rw[HF];exact amn (HB1.trans (HB2.mono (by omega))) (by rw[amo bE HQ (by rw[HTQ];show(12:Int)≠0;decide),HTQ]) (fun h=>absurd h (by decide))
   ·rw[hi]at HI;have hin:¬isName (bs q.name)=false:=by rw[hi];decide
    have am9:q.name.size≤24:=by have:=AP hi;rwa [aC]at this
    obtain⟨S,hS⟩:∃S:ByteArray,S=⟨(dX q.fm).1.toArray⟩:=⟨_,rfl⟩;obtain⟨e1,HE1⟩:=ak (dX q.fm).2;have hsl:S.size≤65536:=by rw[hS];exact abH q.fm
    have HTQ:Hid (Kl q=if e1≠0 then([],e1)else(pI++[32]++bs q.name++[32,58,32]++bs S++AJ,0)):=by show _=_;rw[HE1,hS];exact iN hin
    have fA:=Hd hS;clear hi hin hS;go_wp2_with fail;refine HI.mono ?_;rintro e w2 ⟨rfl,hb2⟩;have kJ:=Hd hb2;have HB2:=Hd (HB.trans (hb2.mono hwr));have hg2:g<w2.heap.size:=lL hgr hb2.size;have HA2:=Hd (Fw.below hb2 g (o+k*7) q hgr HAT);obtain⟨y2,y3,y4,y5,Ae,ce,A5,c5,y6,y7,hV⟩:=HA2.2.open;have hc:=HXT q HM Ae ce A5 c5 w2 hV;obtain⟨n5,hn5⟩:=aj q.fm.kids.length;obtain⟨ne,hne⟩:=aj q.fm.tm.kids.length;unfold Fm.val at hc;rw[←hn5,←hne]at hc;rw[←hn5]at y7;rw[←hne]at y6;rw[←fA,←HE1]at hc;clear hV hn5 hne;have HC:=Hd hc;clear hb2 y0 hc
    by_cases he:e1=0
    ·subst he;go_wp2_with fail;refine HC.mono ?_;rintro e w3 ⟨rfl,hb3⟩;have y0:=(Fw.below hb3 g (o+k*7) q hg2 HA2).1;have HB3:=kB HB2 hb3;clear hb3 y2 y3 y4 y5 y6 y7;go_wp2_with fail
     go_round
     case rel=>
      refine⟨k+1,_,by omega,rfl,by go_num,HB3,?_,?_⟩
      ·have h:=ams bE HQ (by rw[HTQ];rfl);rw[HTQ]at h;rw[←h];simp[bs,AJ,pI]
      ·simp only[bA];have z0:(⟨#[115,112,101,99,32]⟩:ByteArray).size=5:=rfl;have z1:(⟨#[32,58,32]⟩:ByteArray).size=3:=rfl;have z2:(⟨#[32,59,10]⟩:ByteArray).size=3:=rfl;omega
     case measure=>simp[intOf];omega
    ·have heb:(e1 != 0)=true:=by simpa using he
     have HE:=Hd he;clear he;go_wp2_with fail;refine HC.mono ?_;rintro e w3 ⟨rfl,hb3⟩;have HB3:=kB HB2 hb3;have X2:=kX HB3 yJ;have z0:=pG X2 0 rfl;have z1:=pG X2 1 rfl;have zf_:=frz X2;clear hb3 y2 y3 y4 y5 y6 y7;go_wp2_with fail;clear z0 z1 zf_;refine bR (rcX X2) rfl ?_;rw[HF];exact amn (HB1.trans (HB3.mono (by omega))) (by rw[amo bE HQ (by rw[HTQ,iP HE.out];exact HE),HTQ,iP HE.out]) (fun h=>absurd h HE)
  ·have hk1:¬(k:Int)<(n:Int):=by omega
   obtain rfl:k=n:=by omega
   have X2:=kX HB yJ;have z0:=pG X2 0 rfl;have z1:=pG X2 1 rfl;have zf_:=frz X2;clear hkn;go_wp2_with fail;clear z0 z1 zf_;refine bR (rcX X2) rfl ?_;rw[HF];have h:=bE.out;rw[HN,List.drop_length]at h;exact amn (HB1.trans (HB.mono (by omega))) (by rw[←h];rfl) (fun _=>by rw[←h];rfl)
theorem amC(n:Int)(w:World):Calls Tryz.prog 64 #[.int .i64 n] w fun e w'=>e=.returned (.bool (vB n))∧w'=w:=by
 by_cases h1:n < -255
 ·have h2:vB n=true:=by simp[vB,h1]
  have H:=Hd h2;clear h2;go_in
  go_wp2
  go_ret;exact⟨by rw[H];rfl,rfl⟩
 by_cases h3:255<n
 ·have h2:vB n=true:=by simp[vB,h3]
  have H:=Hd h2;clear h2;go_in
  go_wp2
  go_ret;exact⟨by rw[H];rfl,rfl⟩
 have h2:vB n=false:=by simp[vB,h1,h3]
 have H:=Hd h2;clear h2;go_in
 go_wp2
 go_ret;exact⟨by rw[H];rfl,rfl⟩
theorem amU{n:Int}(h:vB n=false):-255≤n∧n≤255:=by
 simp[vB]at h;omega
theorem amP{n:Int}(h1:-255≤n)(h2:n≤255):(⟨(aO n).toArray⟩:ByteArray).size≤20:=by
 have h:=abz n h1 h2;show(aO n).toArray.size≤20;rw[List.size_toArray];omega
theorem amy{a b:ByteArray}(h:a.size+b.size≤1000000000):∀W,(Op.stringOp .add a b).run Tryz.prog W=.ok (.string (a++b)) W:=fun W=>run_string_add_sum W a b (by omega)
theorem amQ{w1 W W':World}(h:Below w1.heap.size w1 W)(hb:Below W.heap.size W W'):Below w1.heap.size w1 W':=h.trans (hb.mono h.size)
theorem amV{w1 W:World}{b:Nat}(h:Below w1.heap.size w1 W)(hb:b<w1.heap.size):∀o,W.cell? ⟨b,o,none⟩=w1.cell? ⟨b,o,none⟩:=fun o=>h.cell (p:=⟨b,o,none⟩) hb
def RTx:Prop:=∀(x:Int) W,-255≤x→x≤255→Calls Tryz.prog 65 #[.int .i64 x] W fun e w'=>e=.returned (.string ⟨(aO x).toArray⟩)∧Below W.heap.size W w'
theorem amK(ts:List Vr)(A:Option Addr)(c:Nat)(w:World)(hrow:fK GN 4 w (.slice A ts.length c) ts)(hI:RIs)(hTx:RTx)(hNm:∀d∈ts,d.name.size≤maxLen) :
 Calls Tryz.prog 33 #[.slice A ts.length c] w (TXQ (rJ mM ts ([],0)) w):=by
 obtain⟨R,hR⟩:=aj (rJ mM ts ([],0));obtain⟨F,HF⟩:=ak (TXQ R w);rw[←hR,←HF];obtain⟨A',c',he,hcap,aQ,hrow⟩:=hrow
 injection he with he1 _ he2
 subst he1 he2;obtain⟨n,HN⟩:=ak ts.length;rw[←HN]at hcap⊢;unfold maxLen at aQ;obtain⟨w1,hw1⟩:=aj (w.alloc (.cells #[.string ⟨#[]⟩,.int .i64 0] 95));have hb1:=dz hw1;have yJ:=jZ hw1 rfl;have HR:=Hd hR;have iF:=Hd hrow;have xR:=Hd hNm;have HIS:=Hd hI;have CF:=Hd hTx;have HB1:=Hd hb1;have HW1:=Hd hw1;have hwl:w.heap.size<w1.heap.size:=by rw[hw1];simp
 clear hR hrow hb1 hw1 hNm hI hTx
 by_cases hbig:64<n
 ·have h64:(64:Int)<(n:Int):=by omega
  have HBG:=Hd hbig;clear hbig;go_in;go_wp2_with fail;refine bR (results_cell_row (t:=95) (fr:=(0,0)) rfl _ _ w.heap.size _ _ rfl (eu w _) Tryz.underlying95 rfl (by kernel_rfl)) rfl ?_;rw[HF];have h2:R.2=18:=by rw[HR];exact amv (by rw[←HN];exact HBG)
  exact⟨⟨#[]⟩,by rw[h2],(fun h=>absurd (h2.symm.trans h) (by decide)),(Br _ _).alloc (lr _) _⟩
 have h64:¬(64:Int)<(n:Int):=by omega
 have HRF:Hid (wN mM (ts.drop 0) (bs ⟨#[]⟩,0)=R):=by show _=_;rw[HR,amt (by rw[←HN];exact hbig),List.drop_zero];rfl
 clear hbig HR;go_in;go_wp2_with fail;rw[←HW1]
 go_loopw [3,4,5] (fun sv iv _ wr=>∃(k:Nat)(s':ByteArray),k≤n∧sv=.string s'∧iv=.int .i64 k∧Below w1.heap.size w1 wr∧wN mM (ts.drop k) (bs s',0)=R∧s'.size≤800000000+70000*k) (fun _ i _ _=>n-(intOf i).toNat)
 case atStart=>exact⟨0,⟨#[]⟩,zl _,rfl,rfl,Br _ _,HRF,by decide⟩
 case round=>
  obtain⟨k,s',hk,rfl,rfl,hb,hre,hsz⟩:=hrel;have HB:=Hd hb;have bE:=Hd hre;have hwr:=hb.size;clear hb hre
  by_cases hkn:k<n
  ·obtain⟨q,hq⟩:∃q,ts[k]?=some q:=⟨_,gG (by have:=HN.out;omega)⟩
   rcases iF.out with h9|⟨g,o,rfl,hg,hrow⟩
   ·rw[h9]at hq;simp at hq
   have hbw:Below w.heap.size w wr:=HB1.trans (HB.mono (by omega));have hqm:=mG hq;have hgr:g<wr.heap.size:=by omega
   obtain⟨y0,y1,y2,y3⟩:=GN.below hbw g (o+k*4) q hg (hrow k q hq);have HQ:=Hd hq;have hk0:(0:Int)≤(k:Int):=by omega
   have hk1:(k:Int)<(n:Int):=by omega
   have h1:s'.size≤900000000:=by omega
   have hnm:=xR q hqm;obtain⟨vb,HVB⟩:=ak q.bool;obtain⟨lo,HLO⟩:=ak q.lo;obtain⟨hi,HHI⟩:=ak q.hi;rw[←HVB]at y1;rw[←HLO]at y2;rw[←HHI]at y3;obtain⟨w2,HW2⟩:=ak (wr.alloc (.cells #[.string q.name,.bool vb,.int .i64 lo,.int .i64 hi] 45));obtain⟨z,HZ⟩:=ak wr.heap.size;have hb2:=dz HW2;have FK:=jZ HW2 HZ;have HB2:=Hd (HB.trans (hb2.mono hwr));have HI:=Hd (HIS q.name w2 hnm);clear hq hrow hbw hqm hnm hb2;go_wp2_with fail;rw[←HW2]
   try rw[←HZ]
   cases hi0:isName (bs q.name)
   ·rw[hi0]at HI;have HTQ:Hid (mM q=([],12)):=by show _=_;exact iP hi0
    clear hi0;refine HI.mono ?_;rintro e w3 ⟨rfl,hb3⟩;have HB3:=kB HB2 hb3;clear y0 y1 y2 y3 hb3;have X9:=kX HB3 yJ;have z0:=pG X9 0 rfl;have z1:=pG X9 1 rfl;have zf_:=frz X9;clear FK;go_wp2_with fail;clear z0 z1 zf_;refine bR (rcX X9) rfl ?_;rw[HF];exact amn (HB1.trans (HB3.mono (by omega))) (by rw[amo bE HQ (by rw[HTQ];decide),HTQ]) (fun h=>absurd h (by decide))
   rw[hi0]at HI;have hin:¬isName (bs q.name)=false:=by rw[hi0];decide
   have am9:q.name.size≤24:=by have:=AP hi0;rwa [aC]at this
   have HTQ:Hid (mM q=if vb=true then(if lo≠0∨hi≠0 then([],3)else(kV++[32]++bs q.name++[32,58,32]++vP++AJ,0))else if vB lo||vB hi then([],2)else(kV++[32]++bs q.name++[32,58,32]++aO lo++[32,46,46,32]++aO hi++AJ,0)):=by show _=_;rw[HVB,HLO,HHI];exact iN hin
   clear hi0 hin;refine HI.mono ?_;rintro e w3 ⟨rfl,hb3⟩;have HB3:=kB HB2 hb3;have Oh:=kX hb3 FK;clear hb3 y0 y1 y2 y3;obtain⟨p0,p1,p2,p3,pz⟩:=q4 Oh;have hw3:z<w3.heap.size:=ltH Oh;cases vb
   ·have HF1:=Hd (amC lo);have HF2:=Hd (amC hi);cases h1:vB lo
    ·rw[h1]at HF1;cases h2:vB hi
     ·rw[h2]at HF2;have HT2:Hid (mM q=(kV++[32]++bs q.name++[32,58,32]++aO lo++[32,46,46,32]++aO hi++AJ,0)):=by show _=_;rw[HTQ,h1,h2];rfl
      obtain⟨l1,l2⟩:=amU h1;obtain⟨l3,l4⟩:=amU h2;obtain⟨S1,fA⟩:∃S1:ByteArray,Hid (S1=⟨(aO lo).toArray⟩):=⟨_,rfl⟩;obtain⟨S2,HS2⟩:∃S2:ByteArray,Hid (S2=⟨(aO hi).toArray⟩):=⟨_,rfl⟩;have hz1:S1.size≤20:=by rw[fA];exact amP l1 l2
      have hz2:S2.size≤20:=by rw[HS2];exact amP l3 l4
      have HC1:Hid (∀W,Calls Tryz.prog 65 #[.int .i64 lo] W fun e w'=>e=.returned (.string S1)∧Below W.heap.size W w'):=fun W=>by rw[fA];exact CF lo W l1 l2
      have Cx:Hid (∀W,Calls Tryz.prog 65 #[.int .i64 hi] W fun e w'=>e=.returned (.string S2)∧Below W.heap.size W w'):=fun W=>by rw[HS2];exact CF hi W l3 l4
      clear h1 h2 HTQ l1 l2 l3 l4;go_wp2_with fail;refine(HF1 _).mono ?_;rintro e w4 ⟨rfl,hw4⟩;rw[hw4];clear hw4;go_wp2_with fail;refine(HF2 _).mono ?_;rintro e w4 ⟨rfl,hw4⟩;rw[hw4];clear hw4;go_wp2_with fail;have hbd:Below w3.heap.size w3 w3.drew:=(Br _ _).drew
      have hp0:(s'++⟨#[118,97,114,32]⟩++q.name++⟨#[32,58,32]⟩:ByteArray).size≤900000100:=by
       simp only[bA];have z0:(⟨#[118,97,114,32]⟩:ByteArray).size=4:=rfl;have z1:(⟨#[32,58,32]⟩:ByteArray).size=3:=rfl;omega
      have hd4:(⟨#[32,46,46,32]⟩:ByteArray).size=4:=rfl;have hd3:(⟨#[32,59,10]⟩:ByteArray).size=3:=rfl;obtain⟨P0,HP0⟩:∃P0:ByteArray,Hid (P0=s'++⟨#[118,97,114,32]⟩++q.name++⟨#[32,58,32]⟩):=⟨_,rfl⟩;rw[←HP0]at hp0⊢;have a1:=amy (a:=P0) (b:=S1) (by omega);have a2:=amy (a:=P0++S1) (b:=⟨#[32,46,46,32]⟩) (by simp only[bA];omega);have a3:=amy (a:=P0++S1++⟨#[32,46,46,32]⟩) (b:=S2) (by simp only[bA];omega);have a4:=amy (a:=P0++S1++⟨#[32,46,46,32]⟩++S2) (b:=⟨#[32,59,10]⟩) (by simp only[bA];omega);clear hd4 hd3
      go_region_held3 (fun w'=>(∀o,w'.cell? ⟨z,o,none⟩=w3.cell? ⟨z,o,none⟩)∧Below w3.heap.size w3 w')
       (first|(exact⟨amV (by assumption) hw3,by assumption⟩)|fail)
       (first|(go_at_call 65;first|(with_reducible refine(HC1.out _).mono ?_;rintro e w4 ⟨rfl,hb4⟩;have hb5:=amQ (by assumption) hb4)|(with_reducible refine(Cx.out _).mono ?_;rintro e w4 ⟨rfl,hb4⟩;have hb5:=amQ (by assumption) hb4)|fail)|fail)
      have pU:=kB HB3 hb5;clear hbd hb4 hb5 a1 a2 a3 a4 p0 p1 p2 p3 pz;go_wp2_with fail
      go_round
      case rel=>
       refine⟨k+1,_,by omega,rfl,by go_num,pU,?_,?_⟩
       ·have h:=ams bE HQ (by rw[HT2]);rw[HT2]at h;rw[←h,HP0];rw[fA,HS2];simp[bs,AJ,kV]
       ·rw[HP0];simp only[bA];have z0:(⟨#[118,97,114,32]⟩:ByteArray).size=4:=rfl;have z1:(⟨#[32,58,32]⟩:ByteArray).size=3:=rfl;have z2:(⟨#[32,46,46,32]⟩:ByteArray).size=4:=rfl;have z3:(⟨#[32,59,10]⟩:ByteArray).size=3:=rfl;omega
      case measure=>simp[intOf];omega
     ·rw[h2]at HF2;have HT2:Hid (mM q=([],2)):=by show _=_;rw[HTQ,h1,h2];rfl
      clear h1 h2 HTQ;go_wp2_with fail;refine(HF1 _).mono ?_;rintro e w4 ⟨rfl,hw4⟩;rw[hw4];clear hw4;go_wp2_with fail;refine(HF2 _).mono ?_;rintro e w4 ⟨rfl,hw4⟩;rw[hw4];clear hw4;have X9:=kX HB3 yJ;have z0:=pG X9 0 rfl;have z1:=pG X9 1 rfl;have zf_:=frz X9;clear p0 p1 p2 p3 pz;go_wp2_with fail;clear z0 z1 zf_;refine bR (rcX X9) rfl ?_;rw[HF];exact amn (HB1.trans (HB3.mono (by omega))) (by rw[amo bE HQ (by rw[HT2];decide),HT2]) (fun h=>absurd h (by decide))
    ·rw[h1]at HF1;have HT2:Hid (mM q=([],2)):=by show _=_;rw[HTQ,h1];rfl
     clear h1 HTQ;go_wp2_with fail;refine(HF1 _).mono ?_;rintro e w4 ⟨rfl,hw4⟩;rw[hw4];clear hw4;have X9:=kX HB3 yJ;have z0:=pG X9 0 rfl;have z1:=pG X9 1 rfl;have zf_:=frz X9;clear p0 p1 p2 p3 pz;go_wp2_with fail;clear z0 z1 zf_;refine bR (rcX X9) rfl ?_;rw[HF];exact amn (HB1.trans (HB3.mono (by omega))) (by rw[amo bE HQ (by rw[HT2];decide),HT2]) (fun h=>absurd h (by decide))
   ·by_cases h1:lo=0
    ·by_cases h2:hi=0
     ·have HT2:Hid (mM q=(kV++[32]++bs q.name++[32,58,32]++vP++AJ,0)):=by show _=_;rw[HTQ];simp[h1,h2]
      have b1:(lo != 0)=false:=by simpa using h1
      have b2:(hi != 0)=false:=by simpa using h2
      clear h1 h2 HTQ;go_wp2_with fail;clear p0 p1 p2 p3 pz
      go_round
      case rel=>
       refine⟨k+1,_,by omega,rfl,by go_num,HB3,?_,?_⟩
       ·have h:=ams bE HQ (by rw[HT2]);rw[HT2]at h;rw[←h];simp[bs,AJ,kV,vP]
       ·simp only[bA];have z0:(⟨#[118,97,114,32]⟩:ByteArray).size=4:=rfl;have z1:(⟨#[32,58,32]⟩:ByteArray).size=3:=rfl;have z2:(⟨#[98,111,111,108,32,59,10]⟩:ByteArray).size=7:=rfl;omega
      case measure=>simp[intOf];omega
     ·have HT2:Hid (mM q=([],3)):=by show _=_;rw[HTQ];simp[h2]
      have b1:(lo != 0)=false:=by simpa using h1
      have b2:(hi != 0)=true:=by simpa using h2
      clear h1 h2 HTQ;have X9:=kX HB3 yJ;have z0:=pG X9 0 rfl;have z1:=pG X9 1 rfl;have zf_:=frz X9;go_wp2_with fail;clear p0 p1 p2 p3 pz z0 z1 zf_;refine bR (rcX X9) rfl ?_;rw[HF];exact amn (HB1.trans (HB3.mono (by omega))) (by rw[amo bE HQ (by rw[HT2];decide),HT2]) (fun h=>absurd h (by decide))
    ·have HT2:Hid (mM q=([],3)):=by show _=_;rw[HTQ];simp[h1]
     have b1:(lo != 0)=true:=by simpa using h1
     clear h1 HTQ;have X9:=kX HB3 yJ;have z0:=pG X9 0 rfl;have z1:=pG X9 1 rfl;have zf_:=frz X9;go_wp2_with fail;clear p0 p1 p2 p3 pz z0 z1 zf_;refine bR (rcX X9) rfl ?_;rw[HF];exact amn (HB1.trans (HB3.mono (by omega))) (by rw[amo bE HQ (by rw[HT2];decide),HT2]) (fun h=>absurd h (by decide))
  ·have hk1:¬(k:Int)<(n:Int):=by omega
   obtain rfl:k=n:=by omega
   have X2:=kX HB yJ;have z0:=pG X2 0 rfl;have z1:=pG X2 1 rfl;have zf_:=frz X2;clear hkn;go_wp2_with fail;clear z0 z1 zf_;refine bR (rcX X2) rfl ?_;rw[HF];have h:=bE.out;rw[HN,List.drop_length]at h;exact amn (HB1.trans (HB.mono (by omega))) (by rw[←h];rfl) (fun _=>by rw[←h];rfl)
end Go.Proofs.YtkhoeoilamddaaaGreatDoor
