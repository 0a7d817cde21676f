/- The rows of a module in memory; walks: modtext's writer.terms, defs. -/
import Derived.Test.YtkhoeoilamddaaaGreatDoorYMwB
namespace Go.Proofs.YtkhoeoilamddaaaGreatDoor
open Go.RowKit
set_option linter.unusedVariables false
set_option maxRecDepth 100000
set_option maxHeartbeats 8000000
def fK{α:Type}(At:World→Nat→Nat→α→Prop)(s:Nat)(w:World)(v:Value)(l:List α):Prop:=
 ∃A c,v=.slice A l.length c∧l.length≤c∧c≤maxLen∧(l=[]∨∃g o,A=some ⟨g,o,none⟩∧g<w.heap.size∧∀j x,l[j]?=some x→At w g (o+j*s) x)
def GN(w:World)(g o:Nat)(v:Vr):Prop:=w.cell? ⟨g,o,none⟩=some (.string v.name)∧w.cell? ⟨g,o+1,none⟩=some (.bool v.bool)∧w.cell? ⟨g,o+2,none⟩=some (.int .i64 v.lo)∧w.cell? ⟨g,o+3,none⟩=some (.int .i64 v.hi)
def uD(w:World)(g o:Nat)(d:Df):Prop:=w.cell? ⟨g,o,none⟩=some (.string d.name)∧gB w g (o+1) d.tm
def Fw(w:World)(g o:Nat)(d:Sp):Prop:=w.cell? ⟨g,o,none⟩=some (.string d.name)∧xS w g (o+1) d.fm
theorem q5w{w:World}{b:Nat}{T:TypeId}{u0 u1 u2 u3 u4:Value}(h:w.heap[b]?=some (.cells #[u0,u1,u2,u3,u4] T (0,0))):w.cell? ⟨b,0,none⟩=some u0∧w.cell? ⟨b,1,none⟩=some u1∧w.cell? ⟨b,2,none⟩=some u2∧w.cell? ⟨b,3,none⟩=some u3∧w.cell? ⟨b,4,none⟩=some u4∧∀j,w.frozen? ⟨b,j,none⟩=false:=
 ⟨pG h 0 rfl,pG h 1 rfl,pG h 2 rfl,pG h 3 rfl,pG h 4 rfl,frz h⟩
theorem fK.below{α:Type}{At:World→Nat→Nat→α→Prop}{s:Nat}{w w':World}{v:Value}{l:List α}(h:fK At s w v l)(hA:∀g o x,g<w.heap.size→At w g o x→At w' g o x)(hs:w.heap.size≤w'.heap.size):fK At s w' v l:=by
 obtain⟨A,c,h1,h2,h3,h4⟩:=h;refine⟨A,c,h1,h2,h3,?_⟩
 rcases h4 with h4|⟨g,o,h5,h6,h7⟩
 ·exact .inl h4
 ·exact .inr ⟨g,o,h5,lL h6 hs,fun j x hj=>hA _ _ _ h6 (h7 j x hj)⟩
section
variable {w w':World} (hb:Below w.heap.size w w')
include hb
theorem GN.below(g o:Nat)(v:Vr)(hg:g<w.heap.size)(h:GN w g o v):GN w' g o v:=by
 obtain⟨h0,h1,h2,h3⟩:=h;exact⟨(hb.cell (p:=⟨g,_,none⟩) hg).trans h0,(hb.cell (p:=⟨g,_,none⟩) hg).trans h1,(hb.cell (p:=⟨g,_,none⟩) hg).trans h2,(hb.cell (p:=⟨g,_,none⟩) hg).trans h3⟩
theorem uD.below(g o:Nat)(v:Df)(hg:g<w.heap.size)(h:uD w g o v):uD w' g o v:=⟨(hb.cell (p:=⟨g,_,none⟩) hg).trans h.1,gB.below hb rfl hg h.2⟩
theorem Fw.below(g o:Nat)(v:Sp)(hg:g<w.heap.size)(h:Fw w g o v):Fw w' g o v:=⟨(hb.cell (p:=⟨g,_,none⟩) hg).trans h.1,xS.below hb rfl hg h.2⟩
end
def ShX(t:Tm):Prop:=∀A c W,zx W A c t→je W→Calls Tryz.prog 97 #[t.val A c] W fun e w'=>e=.returned (.tuple #[.string ⟨(aH t).1.toArray⟩,.int .i64 (aH t).2])∧Below W.heap.size W w'
theorem ShX.at{t:Tm}{A:Option Addr}{c:Nat}{w:World}(h:ShX t)(hV:zx w A c t)(hT:je w):ShT w t A c:=fun W hb=>h A c W (hV.below hb rfl) (hT.below hb)
theorem DN{α:Type}(f:α→BE)(ts:List α)(l:Bs)(x:Int):rJ f ts (l,x)=wN f ts (l,wO x ts.length):=by
 unfold rJ wO yD
 by_cases hx:x=0<;>by_cases hn:64<ts.length<;>simp[hx,hn]
theorem sW{α:Type}{f:α→BE}:∀{ts:List α}{l:Bs}{x:Int},x≠0→wN f ts (l,x)=(l,x)
 |[],_,_,_=>rfl
 |t::r,l,x,h=>by
  show wN f r (mK (l,x) (f t))=_;unfold mK;rw[iP h];exact sW h
theorem DR{α:Type}{f:α→BE}{ts:List α}{k:Nat}{t:α}{st:BE}(h:ts[k]?=some t):wN f (ts.drop k) st=wN f (ts.drop (k+1)) (mK st (f t)):=by
 obtain⟨hk,rfl⟩:=gE.1 h;rw[List.drop_eq_getElem_cons hk]
 rfl
theorem KQ{x:Int}{n:Nat}(h:wO x n=0):n≤64:=by
 unfold wO yD at h
 by_cases hn:64<n
 ·rw[iP hn]at h
  split at h
  ·cases h
  ·exact absurd h ‹_›
 ·omega
theorem akb(l:Bs)(w:ByteArray)(t:Tm):mK (l,0) (xM (bs w) t)=(rM l (aH t).2 [w,⟨(aH t).1.toArray⟩],(aH t).2):=by
 by_cases h:(aH t).2=0
 ·simp[xM,mK,h,rM,om,Lib.join,bs]
 ·simp[xM,mK,h,rM]
def dfM(s:ByteArray)(t:Tm):Int:=if qc 0 s=0 then(aH t).2 else qc 0 s
theorem akc(l:Bs)(w s:ByteArray)(t:Tm):mK (l,0) (pQ (bs w) ⟨s,t⟩)=(rM l (dfM s t) [w,s,⟨#[58,61]⟩,if qc 0 s=0 then⟨(aH t).1.toArray⟩else⟨#[]⟩],dfM s t):=by
 unfold dfM;rw[vT]
 cases hn:isName (bs s)with
 |false=>
  have h':isName s.data.toList=false:=hn;simp[pQ,mK,h',rM]
 |true=>
  have h':¬isName s.data.toList=false:=by show ¬isName (bs s)=false;rw[hn];decide
  by_cases h:(aH t).2=0
  ·simp[pQ,mK,h',h,rM,om,Lib.join,bs]
  ·simp[pQ,mK,h',h,rM]
theorem abF{l:Bs}{y:Int}{a b:ByteArray}{k:Nat}(ha:a.size≤10)(hb:b.size≤65536)(hl:l.length≤k):(rM l y [a,b]).length≤k+70000:=by
 unfold rM
 split
 ·rw[List.length_append,Ml];omega
 ·omega
theorem Po{l:Bs}{y:Int}{a b c d:ByteArray}{k:Nat}(ha:a.size≤10)(hb:y=0→b.size≤24)(hc:c.size≤10)(hd:d.size≤65536)(hl:l.length≤k):(rM l y [a,b,c,d]).length≤k+70000:=by
 unfold rM
 split
 ·rename_i h;rw[List.length_append,AQ];have:=hb h;omega
 ·omega
theorem Pp{s:ByteArray}(h:qc 0 s=0):s.size≤24:=by
 rw[vT]at h
 cases hn:isName (bs s)with
 |false=>rw[hn]at h;cases h
 |true=>have:=AP hn;rwa [aC]at this
theorem afS{s:ByteArray}{t:Tm}(h:dfM s t=0):s.size≤24:=by
 unfold dfM at h
 split at h
 ·exact Pp ‹_›
 ·exact absurd h ‹_›
theorem yE(B b:Nat)(l:Bs)(x:Int)(word:ByteArray)(ts:List Tm)(A:Option Addr)(c:Nat)(w0 w:World)(hB:B=w0.heap.size)(hb0:Below B w0 w)(h:Wr B b l x w)(hrow:fK gB 4 w0 (.slice A ts.length c) ts)(hX:∀t∈ts,ShX t)(hT:je w0)(hl:l.length≤800000000)(hw:word.size≤10) :
 Calls Tryz.prog 26 #[.pointer (some ⟨b,0,none⟩),.string word,.slice A ts.length c] w fun r w'=>r=.returned (.tuple #[])∧WG B b (rJ (xM (bs word)) ts (l,x)).1 (rJ (xM (bs word)) ts (l,x)).2 w w'∧(rJ (xM (bs word)) ts (l,x)).1.length≤l.length+4480000:=by
 rw[DN];obtain⟨R,hR⟩:=aj (wN (xM (bs word)) ts (l,wO x ts.length));rw[←hR];obtain⟨F,HF⟩:=ak (fun(r:Ending)(w':World)=>r=.returned (.tuple #[])∧WG B b R.1 R.2 w w'∧R.1.length≤l.length+4480000);rw[←HF];obtain⟨A',c',he,hcap,aQ,hrow⟩:=hrow
 injection he with he1 _ he2
 subst he1 he2;have zM:=AO B b l x ts.length w h;obtain⟨n,HN⟩:=ak ts.length;have OG:wO x n=0→n≤64:=KQ;have hBw:B≤w.heap.size:=Nat.le_trans h.le (Nat.le_of_lt h.lt);rw[←HN]at zM hcap hR⊢;obtain⟨y,hy⟩:=aj (wO x n);rw[←hy]at zM hR OG;unfold maxLen at aQ;have HM:=Hd zM;have HR:=Hd hR;have iF:=Hd hrow;have HXT:=Hd hX;have HT:=Hd hT;have qY:=Hd hB;have HB0:=Hd hb0;have kH:=Hd hBw;have abG:=Hd OG;have HL:=Hd hl;have Dy:=Hd hw;have akd:0≤b:=zl _;clear zM hR hrow hX hT hB hb0 hBw OG hl hw hy h;go_in;go_wp2_with fail;refine HM.mono ?_;rintro e w1 ⟨rfl,hg1⟩;have QU:=Hd hg1;clear hg1 HM;go_wp2_with fail
 go_loopw [14] (fun si wr=>∃(k:Nat)(l1:Bs)(x1:Int),k≤n∧k≤64∧si=.int .i64 k∧WG B b l1 x1 w wr∧wN (xM (bs word)) (ts.drop k) (l1,x1)=R∧l1.length≤l.length+70000*k∧(x1=0→n≤64)) (fun i _=>n-(intOf i).toNat)
 case atStart=>exact⟨0,l,y,zl _,zl _,rfl,QU,HR.symm,lr _,abG⟩
 case round=>
  obtain⟨k,l1,x1,hk,ai5,rfl,hg,hrest,hl1,h64⟩:=hrel;obtain⟨c2,f2,hlt⟩:=wr2 hg.1;have HG:=Hd hg;have bE:=Hd hrest;have QW:=Hd hl1;have VQ:=Hd h64;clear hg hrest hl1 h64
  by_cases hkn:k<n
  ·obtain⟨q,hq⟩:∃q,ts[k]?=some q:=⟨_,gG (by have:=HN.out;omega)⟩
   rcases iF.out with h9|⟨g,o,rfl,hg,hrow⟩
   ·rw[h9]at hq;simp at hq
   have hbw:Below w0.heap.size w0 wr:=by rw[←qY];exact HB0.trans HG.2.below
   have hqx:=HXT q (mG hq);have hTr:=HT.below hbw;have hat:=hrow k q hq;have hgr:g<wr.heap.size:=lL hg hbw.size;have hne:g≠wr.heap.size:=by omega
   have hbn:b≠wr.heap.size:=by omega
   obtain⟨y0,y1,y2,A5,c5,y3,hV⟩:=(gB.below hbw rfl hg hat).open;have HE:=Hd (bE.symm.trans (DR hq));obtain⟨n5,EP⟩:=ak q.kids.length;rw[←EP]at y3;have HV:=Hd hV;have HTr:=Hd hTr;have HQX:=Hd hqx;have hk0:(0:Int)≤(k:Int):=by omega
   have hk1:(k:Int)<(n:Int):=by omega
   obtain⟨w2,HW2⟩:=ak (wr.alloc (.cells #[.int .i64 q.op,.int .i64 q.num,.string q.name,.slice A5 n5 c5] 64));obtain⟨z,HZ⟩:=ak wr.heap.size;have hbz:=dz HW2;have HX:=jZ HW2 HZ;have HG2:=Hd (HG.below hbz kH);have jm:=Hd (HV.below hbz rfl);have HT2:=Hd (HTr.below hbz);clear hq hg hrow hbw hqx hTr hat hV hbz HTr HV
   by_cases hx:x1=0
   ·subst hx;have GR:=Hd (VQ rfl);clear VQ;obtain⟨v0,v1,v2,v3,-⟩:=q4 HX;obtain⟨S,hS⟩:∃S:ByteArray,S=⟨(aH q).1.toArray⟩:=⟨_,rfl⟩;obtain⟨e1,he1⟩:=aj (aH q).2;have hsl:S.size≤65536:=by rw[hS];exact og q
    have hadd:=akb l1 word q;rw[←hS,←he1]at hadd;have WR:=Mk B b l1 0 q A5 c5 w2 HG2.1 (Nat.le_trans kH HG2.2.below.size) (HQX.at jm HT2);rw[iP rfl,iP rfl,←hS,←he1]at WR;unfold Tm.val at WR;rw[←EP]at WR;have HTM:=Hd WR;have WU:=Hd hadd;have HSL:=Hd hsl;clear hadd WR hsl hS he1;have h00:((0:Int) != 0)=false:=rfl;go_wp2_with fail;rw[←HW2]
    try rw[←HZ]
    (try go_wp2_with fail);refine HTM.mono ?_;rintro e w3 ⟨rfl,hg3⟩;have hg3:=HG2.trans hg3;obtain⟨z4,hz4⟩:=aj w3.heap.size;obtain⟨w4,hw4⟩:=aj (w3.alloc (.cells (I6 [word,S]) 9));have hb4:=dz hw4;have HZ4:=jZ hw4 hz4;have hg4:=hg3.below hb4 kH;have hln:Calls Tryz.prog 30 #[.pointer (some ⟨b,0,none⟩),.slice (some ⟨z4,0,none⟩) 2 2] w4 _:=wP B b z4 l1 e1 [word,S] w4 hg4.1 HZ4 (by simp) (fun h=>by rw[Ml];have:=HSL.out;have:=Dy.out;have:=QW.out;have:=HL.out;have:=GR.out;omega) (Nat.le_trans kH hg4.2.below.size);have QV:=Hd hln;have HW4:=Hd hw4;have HZQ:=Hd hz4;have HG4:=Hd hg4;clear hz4 hw4 hb4 hg4 hln hg3 v0 v1 v2 v3 y0 y1 y2 y3;go_wp2_with fail;show Calls _ _ #[_,.slice (some ⟨w3.heap.size,0,none⟩) 2 2] (w3.alloc (.cells (I6 [word,S]) 9)) _;rw[←HW4,←HZQ];refine QV.mono ?_;rintro e w5 ⟨rfl,hg⟩;have HG5:=Hd (HG4.trans hg);clear hg;go_wp2_with fail
    go_round
    case rel=>exact⟨k+1,_,_,by omega,by have:=GR.out;omega,by go_num,HG5,by rw[←WU];exact HE.symm,Nat.le_trans (abF Dy HSL QW) (Nat.le_of_eq (by rw[Nat.mul_succ,Nat.add_assoc])),fun _=>GR⟩
    case measure=>simp[intOf];omega
   ·have HR2:=Hd (bE.symm.trans (sW hx));have hb:(x1 != 0)=true:=by simpa using hx
    clear hx;go_wp2_with fail;rw[←HW2];refine bR (v:=.tuple #[]) (results_none rfl _ _ _) rfl ?_;rw[HF,HR2];exact⟨rfl,HG2,by have:=QW.out;have:=HL.out;show l1.length≤_;omega⟩
  ·have hkn':k=n:=by omega
   subst hkn';have HR2:Hid (R=(l1,x1)):=by show _=_;rw[←bE,HN,List.drop_length];rfl
   have hlt2:¬(k:Int)<(k:Int):=by omega
   go_wp2_with fail;refine bR (v:=.tuple #[]) (results_none rfl _ _ _) rfl ?_;rw[HF,HR2];exact⟨rfl,HG,by have:=QW.out;show l1.length≤_;omega⟩
theorem Mq(B b:Nat)(l:Bs)(x:Int)(word:ByteArray)(ts:List Df)(A:Option Addr)(c:Nat)(w0 w:World)(hB:B=w0.heap.size)(hb0:Below B w0 w)(h:Wr B b l x w)(hrow:fK uD 5 w0 (.slice A ts.length c) ts)(hX:(∀d∈ts,ShX d.tm)∧∀d∈ts,d.name.size≤maxLen)(hT:je w0)(hl:l.length≤800000000)(hw:word.size≤10) :
 Calls Tryz.prog 25 #[.pointer (some ⟨b,0,none⟩),.string word,.slice A ts.length c] w fun r w'=>r=.returned (.tuple #[])∧WG B b (rJ (pQ (bs word)) ts (l,x)).1 (rJ (pQ (bs word)) ts (l,x)).2 w w'∧(rJ (pQ (bs word)) ts (l,x)).1.length≤l.length+4480000:=by
 rw[DN];obtain⟨R,hR⟩:=aj (wN (pQ (bs word)) ts (l,wO x ts.length));rw[←hR];obtain⟨F,HF⟩:=ak (fun(r:Ending)(w':World)=>r=.returned (.tuple #[])∧WG B b R.1 R.2 w w'∧R.1.length≤l.length+4480000);rw[←HF];obtain⟨A',c',he,hcap,aQ,hrow⟩:=hrow
 injection he with he1 _ he2
 subst he1 he2;have zM:=AO B b l x ts.length w h;obtain⟨n,HN⟩:=ak ts.length;have OG:wO x n=0→n≤64:=KQ;have hBw:B≤w.heap.size:=Nat.le_trans h.le (Nat.le_of_lt h.lt);rw[←HN]at zM hcap hR⊢;obtain⟨y,hy⟩:=aj (wO x n);rw[←hy]at zM hR OG;unfold maxLen at aQ;have HM:=Hd zM;have HR:=Hd hR;have iF:=Hd hrow;have HXT:=Hd hX.1;have KG:=Hd hX.2;have HT:=Hd hT;have qY:=Hd hB;have HB0:=Hd hb0;have kH:=Hd hBw;have abG:=Hd OG;have HL:=Hd hl;have Dy:=Hd hw;have akd:0≤b:=zl _;clear zM hR hrow hX hT hB hb0 hBw OG hl hw hy h;go_in;go_wp2_with fail;refine HM.mono ?_;rintro e w1 ⟨rfl,hg1⟩;have QU:=Hd hg1;clear hg1 HM;go_wp2_with fail
 go_loopw [15] (fun si wr=>∃(k:Nat)(l1:Bs)(x1:Int),k≤n∧k≤64∧si=.int .i64 k∧WG B b l1 x1 w wr∧wN (pQ (bs word)) (ts.drop k) (l1,x1)=R∧l1.length≤l.length+70000*k∧(x1=0→n≤64)) (fun i _=>n-(intOf i).toNat)
 case atStart=>exact⟨0,l,y,zl _,zl _,rfl,QU,HR.symm,lr _,abG⟩
 case round=>
  obtain⟨k,l1,x1,hk,ai5,rfl,hg,hrest,hl1,h64⟩:=hrel;obtain⟨c2,f2,hlt⟩:=wr2 hg.1;have HG:=Hd hg;have bE:=Hd hrest;have QW:=Hd hl1;have VQ:=Hd h64;clear hg hrest hl1 h64
  by_cases hkn:k<n
  ·obtain⟨q,hq⟩:∃q,ts[k]?=some q:=⟨_,gG (by have:=HN.out;omega)⟩
   rcases iF.out with h9|⟨g,o,rfl,hg,hrow⟩
   ·rw[h9]at hq;simp at hq
   have hbw:Below w0.heap.size w0 wr:=by rw[←qY];exact HB0.trans HG.2.below
   have hqx:=HXT q (mG hq);have hTr:=HT.below hbw;have hat:=hrow k q hq;have hgr:g<wr.heap.size:=lL hg hbw.size;have hne:g≠wr.heap.size:=by omega
   have hbn:b≠wr.heap.size:=by omega
   obtain⟨hy0,ha2⟩:=hat;have hnm:=KG q (mG hq);obtain⟨hy1,hy2,hy3,A5,c5,hy4,hV⟩:=ha2.open;have hy:=fun(o:Nat)(v:Value)(h:w0.cell? ⟨g,o,none⟩=some v)=>(hbw.cell (p:=⟨g,o,none⟩) hg).trans h;have y0:=hy _ _ hy0;have y1:=hy _ _ hy1;have y2:=hy _ _ hy2;have y3:=hy _ _ hy3;have y4:=hy _ _ hy4;rw[show o+k*5+1+1=o+k*5+2 from rfl]at y2;rw[show o+k*5+1+2=o+k*5+3 from rfl]at y3;rw[show o+k*5+1+3=o+k*5+4 from rfl]at y4;have xR:=Hd hnm;have hat:=True.intro;clear ha2 hnm hy0 hy1 hy2 hy3 hy4 hy;have HE:=Hd (bE.symm.trans (DR hq));obtain⟨n5,EP⟩:=ak q.tm.kids.length;rw[←EP]at y4;have HV:=Hd hV;have HTr:=Hd hTr;have HQX:=Hd hqx;have hk0:(0:Int)≤(k:Int):=by omega
   have hk1:(k:Int)<(n:Int):=by omega
   obtain⟨w2,HW2⟩:=ak (wr.alloc (.cells #[.string q.name,.int .i64 q.tm.op,.int .i64 q.tm.num,.string q.tm.name,.slice A5 n5 c5] 74));obtain⟨z,HZ⟩:=ak wr.heap.size;have hbz:=dz HW2;have HX:=jZ HW2 HZ;have HG2:=Hd (HG.below hbz kH);have HT2:=Hd (HTr.below hbz);clear hq hg hrow hbw hqx hTr hat hV hbz HTr
   by_cases hx:x1=0
   ·subst hx;have GR:=Hd (VQ rfl);clear VQ;obtain⟨v0,v1,v2,v3,v4,-⟩:=q5w HX;obtain⟨nm,tm⟩:=q;simp only at *;obtain⟨e0,he0⟩:=aj (qc 0 nm);obtain⟨e1,he1⟩:=aj (dfM nm tm);obtain⟨S,hS⟩:∃S:ByteArray,S=if e0=0 then⟨(aH tm).1.toArray⟩else⟨#[]⟩:=⟨_,rfl⟩;have hsl:S.size≤65536:=by rw[hS];split;exact og tm;exact zl _
    have hadd:=akc l1 word nm tm;rw[←he0,←hS,←he1]at hadd;have hdl:e1=0→nm.size≤24:=fun h=>afS (he1 ▸ h);have WY:=Fv B b l1 0 nm w2 HG2.1 xR HT2;rw[←he0]at WY
    have HTM:Hid (∀W,Below w0.heap.size w0 W→B≤W.heap.size→Wr B b l1 e0 W→Calls Tryz.prog 57 #[.pointer (some ⟨b,0,none⟩),.agg #[.int .i64 tm.op,.int .i64 tm.num,.string tm.name,.slice A5 n5 c5]] W fun r w'=>r=.returned (.string S)∧WG B b l1 e1 W w'):=fun W hbw hB hg=>by
     have h:=Mk B b l1 e0 tm A5 c5 W hg hB (HQX.at (HV.below hbw rfl) (HT.below hbw));unfold Tm.val at h;rw[←EP,show(if e0=0 then(⟨(aH tm).1.toArray⟩:ByteArray)else⟨#[]⟩)=S from hS.symm,show(if e0=0 then(aH tm).2 else e0)=e1 by rw[he1,he0];rfl]at h;exact h
    have HNC:=Hd WY;have WU:=Hd hadd;have HSL:=Hd hsl;have HDL:=Hd hdl;clear hadd WY hsl hS he1 he0 hdl;have h00:((0:Int) != 0)=false:=rfl;go_wp2_with fail;rw[←HW2]
    try rw[←HZ]
    (try go_wp2_with fail);refine HNC.mono ?_;rintro e w3 ⟨rfl,hg3⟩;have hx3:=SH hg3.2 HX (by have:=HZ.out;omega);obtain⟨v0,v1,v2,v3,v4,-⟩:=q5w hx3.out;have hl3:=lH hx3.out;have hg3:=HG2.trans hg3;have ake:=Hd (HTM w3 (by rw[←qY];exact HB0.trans hg3.2.below) (Nat.le_trans kH hg3.2.below.size) hg3.1);have HG3:=Hd hg3;clear hg3 hx3 HTM;go_wp2_with fail;refine ake.mono ?_;rintro e w4 ⟨rfl,hg4⟩;have hg4:=HG3.trans hg4;obtain⟨z5,hz5⟩:=aj w4.heap.size;obtain⟨w5,gH⟩:=aj (w4.alloc (.cells (I6 [word,nm,⟨#[58,61]⟩,S]) 9));have hb5:=dz gH;have HZ5:=jZ gH hz5;have hg5:=hg4.below hb5 kH;have hln:Calls Tryz.prog 30 #[.pointer (some ⟨b,0,none⟩),.slice (some ⟨z5,0,none⟩) 4 4] w5 _:=wP B b z5 l1 e1 [word,nm,⟨#[58,61]⟩,S] w5 hg5.1 HZ5 (by simp) (fun h=>by rw[AQ];have:=HSL.out;have:=Dy.out;have:=QW.out;have:=HL.out;have:=GR.out;have:=HDL h;show _+(word.size+nm.size+2+S.size+6)≤_;omega) (Nat.le_trans kH hg5.2.below.size);have QV:=Hd hln;have HW5:=Hd gH;have HZQ:=Hd hz5;have HG5:=Hd hg5;clear hz5 gH hb5 hg5 hln hg4 v0 v1 v2 v3 v4 y0 y1 y2 y3 y4 hl3;go_wp2_with fail;show Calls _ _ #[_,.slice (some ⟨w4.heap.size,0,none⟩) 4 4] (w4.alloc (.cells (I6 [word,nm,⟨#[58,61]⟩,S]) 9)) _;rw[←HW5,←HZQ];refine QV.mono ?_;rintro e w6 ⟨rfl,hg⟩;have HG6:=Hd (HG5.trans hg);clear hg
    go_wp2_with fail
    go_round
    case rel=>exact⟨k+1,_,_,by omega,by have:=GR.out;omega,by go_num,HG6,by rw[←WU];exact HE.symm,Nat.le_trans (Po Dy HDL (by show 2≤10;omega) HSL QW) (Nat.le_of_eq (by rw[Nat.mul_succ,Nat.add_assoc])),fun _=>GR⟩
    case measure=>simp[intOf];omega
   ·have HR2:=Hd (bE.symm.trans (sW hx));have hb:(x1 != 0)=true:=by simpa using hx
    clear hx;go_wp2_with fail;rw[←HW2];refine bR (v:=.tuple #[]) (results_none rfl _ _ _) rfl ?_;rw[HF,HR2];exact⟨rfl,HG2,by have:=QW.out;have:=HL.out;show l1.length≤_;omega⟩
  ·have hkn':k=n:=by omega
   subst hkn';have HR2:Hid (R=(l1,x1)):=by show _=_;rw[←bE,HN,List.drop_length];rfl
   have hlt2:¬(k:Int)<(k:Int):=by omega
   go_wp2_with fail;refine bR (v:=.tuple #[]) (results_none rfl _ _ _) rfl ?_;rw[HF,HR2];exact⟨rfl,HG,by have:=QW.out;show l1.length≤_;omega⟩
end Go.Proofs.YtkhoeoilamddaaaGreatDoor
