/- Walks and plain words: MwD MwE. -/
import Derived.Test.YtkhoeoilamddaaaGreatDoorQMwB
namespace Go.Proofs.YtkhoeoilamddaaaGreatDoor
open Go.RowKit
set_option linter.unusedVariables false
set_option maxRecDepth 100000
set_option maxHeartbeats 8000000
def fK{α:Type}(At:World→Nat→Nat→α→Prop)(s:Nat)(w:World)(v:Value)(l:List α):Prop:=
 ∃A c,v=.slice A l.length c∧l.length≤c∧c≤maxLen∧(l=[]∨∃g o,A=some ⟨g,o,none⟩∧g<w.heap.size∧∀j x,l[j]?=some x→At w g (o+j*s) x)
def GN(w:World)(g o:Nat)(v:Vr):Prop:=w.cell? ⟨g,o,none⟩=some (.string v.name)∧w.cell? ⟨g,o+1,none⟩=some (.bool v.bool)∧w.cell? ⟨g,o+2,none⟩=some (.int .i64 v.lo)∧w.cell? ⟨g,o+3,none⟩=some (.int .i64 v.hi)
def uD(w:World)(g o:Nat)(d:Df):Prop:=w.cell? ⟨g,o,none⟩=some (.string d.name)∧gB w g (o+1) d.tm
def Fw(w:World)(g o:Nat)(d:Sp):Prop:=w.cell? ⟨g,o,none⟩=some (.string d.name)∧xS w g (o+1) d.fm
theorem q5w{w:World}{b:Nat}{T:TypeId}{D G I J O:Value}(h:w.heap[b]?=some (.cells #[D,G,I,J,O] T (0,0))):w.cell? ⟨b,0,none⟩=some D∧w.cell? ⟨b,1,none⟩=some G∧w.cell? ⟨b,2,none⟩=some I∧w.cell? ⟨b,3,none⟩=some J∧w.cell? ⟨b,4,none⟩=some O∧∀j,w.frozen? ⟨b,j,none⟩=false:=
 ⟨pG h 0 rfl,pG h 1 rfl,pG h 2 rfl,pG h 3 rfl,pG h 4 rfl,frz h⟩
theorem fK.below{α:Type}{At:World→Nat→Nat→α→Prop}{s:Nat}{w w':World}{v:Value}{l:List α}(h:fK At s w v l)(hA:∀g o x,g<w.heap.size→At w g o x→At w' g o x)(hs:w.heap.size≤w'.heap.size):fK At s w' v l:=by
 obtain⟨A,c,h1,h2,h3,D⟩:=h;refine⟨A,c,h1,h2,h3,?_⟩
 rcases D with D|⟨g,o,h5,G,I⟩
 ·exact .inl D
 ·exact .inr ⟨g,o,h5,lL G hs,fun j x J=>hA _ _ _ G (I j x J)⟩
section
variable {w w':World} (hb:Below w.heap.size w w')
include hb
theorem GN.below(g o:Nat)(v:Vr)(D:g<w.heap.size)(h:GN w g o v):GN w' g o v:=by
 obtain⟨h0,h1,h2,h3⟩:=h;exact⟨(hb.cell (p:=⟨g,_,none⟩) D).trans h0,(hb.cell (p:=⟨g,_,none⟩) D).trans h1,(hb.cell (p:=⟨g,_,none⟩) D).trans h2,(hb.cell (p:=⟨g,_,none⟩) D).trans h3⟩
theorem uD.below(g o:Nat)(v:Df)(D:g<w.heap.size)(h:uD w g o v):uD w' g o v:=⟨(hb.cell (p:=⟨g,_,none⟩) D).trans h.1,gB.below hb rfl D h.2⟩
theorem Fw.below(g o:Nat)(v:Sp)(D:g<w.heap.size)(h:Fw w g o v):Fw w' g o v:=⟨(hb.cell (p:=⟨g,_,none⟩) D).trans h.1,xS.below hb rfl D h.2⟩
end
def ShX(t:Tm):Prop:=∀A c W,zx W A c t→je W→Calls Tryz.prog 97 #[t.val A c] W fun e w'=>e=.returned (.tuple #[.string ⟨(aH t).1.toArray⟩,.int .i64 (aH t).2])∧Below W.heap.size W w'
theorem ShX.at{t:Tm}{A:Option Addr}{c:Nat}{w:World}(h:ShX t)(G:zx w A c t)(D:je w):ShT w t A c:=fun W hb=>h A c W (G.below hb rfl) (D.below hb)
theorem DN{α:Type}(f:α→BE)(ts:List α)(l:Bs)(x:Int):rJ f ts (l,x)=wN f ts (l,wO x ts.length):=by
 unfold rJ wO yD
 by_cases hx:x=0<;>by_cases hn:64<ts.length<;>simp[hx,hn]
theorem sW{α:Type}{f:α→BE}:∀{ts:List α}{l:Bs}{x:Int},x≠0→wN f ts (l,x)=(l,x)
 |[],_,_,_=>rfl
 |t::r,l,x,h=>by
  show wN f r (mK (l,x) (f t))=_;unfold mK;rw[iP h];exact sW h
theorem DR{α:Type}{f:α→BE}{ts:List α}{k:Nat}{t:α}{st:BE}(h:ts[k]?=some t):wN f (ts.drop k) st=wN f (ts.drop (k+1)) (mK st (f t)):=by
 obtain⟨D,rfl⟩:=gE.1 h;rw[List.drop_eq_getElem_cons D]
 rfl
theorem KQ{x:Int}{n:Nat}(h:wO x n=0):n≤64:=by
 unfold wO yD at h
 by_cases hn:64<n
 ·rw[iP hn]at h
  split at h
  ·cases h
  ·exact absurd h ‹_›
 ·omega
theorem akb(l:Bs)(w:ByteArray)(t:Tm):mK (l,0) (xM (bs w) t)=(rM l (aH t).2 [w,⟨(aH t).1.toArray⟩],(aH t).2):=by
 by_cases h:(aH t).2=0
 ·simp[xM,mK,h,rM,om,Lib.join,bs]
 ·simp[xM,mK,h,rM]
def dfM(s:ByteArray)(t:Tm):Int:=if qc 0 s=0 then(aH t).2 else qc 0 s
theorem akc(l:Bs)(w s:ByteArray)(t:Tm):mK (l,0) (pQ (bs w) ⟨s,t⟩)=(rM l (dfM s t) [w,s,⟨#[58,61]⟩,if qc 0 s=0 then⟨(aH t).1.toArray⟩else⟨#[]⟩],dfM s t):=by
 unfold dfM;rw[vT]
 cases hn:isName (bs s)with
 |false=>
  have D:isName s.data.toList=false:=hn;simp[pQ,mK,D,rM]
 |true=>
  have D:¬isName s.data.toList=false:=by show ¬isName (bs s)=false;rw[hn];decide
  by_cases h:(aH t).2=0
  ·simp[pQ,mK,D,h,rM,om,Lib.join,bs]
  ·simp[pQ,mK,D,h,rM]
theorem abF{l:Bs}{y:Int}{a b:ByteArray}{k:Nat}(ha:a.size≤10)(hb:b.size≤65536)(D:l.length≤k):(rM l y [a,b]).length≤k+70000:=by
 unfold rM
 split
 ·rw[List.length_append,Ml];omega
 ·omega
theorem Po{l:Bs}{y:Int}{a b c d:ByteArray}{k:Nat}(ha:a.size≤10)(hb:y=0→b.size≤24)(hc:c.size≤10)(hd:d.size≤65536)(D:l.length≤k):(rM l y [a,b,c,d]).length≤k+70000:=by
 unfold rM
 split
 ·rename_i h;rw[List.length_append,AQ];have:=hb h;omega
 ·omega
theorem Pp{s:ByteArray}(h:qc 0 s=0):s.size≤24:=by
 rw[vT]at h
 cases hn:isName (bs s)with
 |false=>rw[hn]at h;cases h
 |true=>have:=AP hn;rwa [aC]at this
theorem afS{s:ByteArray}{t:Tm}(h:dfM s t=0):s.size≤24:=by
 unfold dfM at h
 split at h
 ·exact Pp ‹_›
 ·exact absurd h ‹_›
theorem yE(B b:Nat)(l:Bs)(x:Int)(word:ByteArray)(ts:List Tm)(A:Option Addr)(c:Nat)(w0 w:World)(hB:B=w0.heap.size)(aP:Below B w0 w)(h:Wr B b l x w)(hrow:fK gB 4 w0 (.slice A ts.length c) ts)(hX:∀t∈ts,ShX t)(hT:je w0)(hl:l.length≤800000000)(hw:word.size≤10) :
 Calls Tryz.prog 26 #[.pointer (some ⟨b,0,none⟩),.string word,.slice A ts.length c] w fun r w'=>r=.returned (.tuple #[])∧WG B b (rJ (xM (bs word)) ts (l,x)).1 (rJ (xM (bs word)) ts (l,x)).2 w w'∧(rJ (xM (bs word)) ts (l,x)).1.length≤l.length+4480000:=by
 rw[DN];obtain⟨R,hR⟩:=aj (wN (xM (bs word)) ts (l,wO x ts.length));rw[←hR];obtain⟨F,HF⟩:=ak (fun(r:Ending)(w':World)=>r=.returned (.tuple #[])∧WG B b R.1 R.2 w w'∧R.1.length≤l.length+4480000);rw[←HF];obtain⟨A',c',he,ar,aQ,hrow⟩:=hrow
 injection he with G _ he2
 subst G he2;have zM:=AO B b l x ts.length w h;obtain⟨n,HN⟩:=ak ts.length;have OG:wO x n=0→n≤64:=KQ;have aE:B≤w.heap.size:=Nat.le_trans h.le (Nat.le_of_lt h.lt);rw[←HN]at zM ar hR⊢;obtain⟨y,hy⟩:=aj (wO x n);rw[←hy]at zM hR OG;unfold maxLen at aQ;have HM:=Hd zM;have HR:=Hd hR;have iF:=Hd hrow;have bk:=Hd hX;have HT:=Hd hT;have qY:=Hd hB;have bb:=Hd aP;have kH:=Hd aE;have bn:=Hd OG;have HL:=Hd hl;have Dy:=Hd hw;have br:0≤b:=zl _;clear zM hR hrow hX hT hB aP aE OG hl hw hy h;go_in;go_wp2_with fail;refine HM.mono ?_;rintro e w1 ⟨rfl,a6⟩;have QU:=Hd a6;clear a6 HM;go_wp2_with fail
 go_loopw [14] (fun si wr=>∃(k:Nat)(O:Bs)(x1:Int),k≤n∧k≤64∧si=.int .i64 k∧WG B b O x1 w wr∧wN (xM (bs word)) (ts.drop k) (O,x1)=R∧O.length≤l.length+70000*k∧(x1=0→n≤64)) (fun i _=>n-(intOf i).toNat)
 case atStart=>exact⟨0,l,y,zl _,zl _,rfl,QU,HR.symm,lr _,bn⟩
 case round=>
  obtain⟨k,O,x1,hk,bp,rfl,J,I,a7,az⟩:=hrel;obtain⟨c2,f2,bL⟩:=wr2 J.1;have HG:=Hd J;have bE:=Hd I;have QW:=Hd a7;have VQ:=Hd az;clear J I a7 az
  by_cases bJ:k<n
  ·obtain⟨q,hq⟩:∃q,ts[k]?=some q:=⟨_,gG (by have:=HN.out;omega)⟩
   rcases iF.out with h9|⟨g,o,rfl,J,hrow⟩
   ·rw[h9]at hq;simp at hq
   have ab:Below w0.heap.size w0 wr:=by rw[←qY];exact bb.trans HG.2.below
   have ba:=bk q (mG hq);have aF:=HT.below ab;have aJ:=hrow k q hq;have bw:g<wr.heap.size:=lL J ab.size;have hne:g≠wr.heap.size:=by omega
   have bv:b≠wr.heap.size:=by omega
   obtain⟨y0,y1,y2,A5,c5,y3,hV⟩:=(gB.below ab rfl J aJ).open;have HE:=Hd (bE.symm.trans (DR hq));obtain⟨n5,EP⟩:=ak q.kids.length;rw[←EP]at y3;have HV:=Hd hV;have ay:=Hd aF;have bg:=Hd ba;have bz:(0:Int)≤(k:Int):=by omega
   have bC:(k:Int)<(n:Int):=by omega
   obtain⟨w2,aa⟩:=ak (wr.alloc (.cells #[.int .i64 q.op,.int .i64 q.num,.string q.name,.slice A5 n5 c5] 64));obtain⟨z,HZ⟩:=ak wr.heap.size;have ae:=dz aa;have HX:=jZ aa HZ;have Y:=Hd (HG.below ae kH);have jm:=Hd (HV.below ae rfl);have bh:=Hd (ay.below ae);clear hq J hrow ab ba aF aJ hV ae ay HV
   by_cases hx:x1=0
   ·subst hx;have GR:=Hd (VQ rfl);clear VQ;obtain⟨v0,v1,v2,v3,-⟩:=q4 HX;obtain⟨S,hS⟩:∃S:ByteArray,S=⟨(aH q).1.toArray⟩:=⟨_,rfl⟩;obtain⟨e1,G⟩:=aj (aH q).2;have hsl:S.size≤65536:=by rw[hS];exact og q
    have D:=akb O word q;rw[←hS,←G]at D;have WR:=Mk B b O 0 q A5 c5 w2 Y.1 (Nat.le_trans kH Y.2.below.size) (bg.at jm bh);rw[iP rfl,iP rfl,←hS,←G]at WR;unfold Tm.val at WR;rw[←EP]at WR;have bi:=Hd WR;have WU:=Hd D;have ax:=Hd hsl;clear D WR hsl hS G;have bu:((0:Int) != 0)=false:=rfl;go_wp2_with fail;rw[←aa]
    try rw[←HZ]
    (try go_wp2_with fail);refine bi.mono ?_;rintro e w3 ⟨rfl,af⟩;have af:=Y.trans af;obtain⟨z4,aw⟩:=aj w3.heap.size;obtain⟨w4,ai⟩:=aj (w3.alloc (.cells (I6 [word,S]) 9));have aS:=dz ai;have bl:=jZ ai aw;have ag:=af.below aS kH;have a8:Calls Tryz.prog 30 #[.pointer (some ⟨b,0,none⟩),.slice (some ⟨z4,0,none⟩) 2 2] w4 _:=wP B b z4 O e1 [word,S] w4 ag.1 bl (by simp) (fun h=>by rw[Ml];have:=ax.out;have:=Dy.out;have:=QW.out;have:=HL.out;have:=GR.out;omega) (Nat.le_trans kH ag.2.below.size);have QV:=Hd a8;have bj:=Hd ai;have bm:=Hd aw;have bd:=Hd ag;clear aw ai aS ag a8 af v0 v1 v2 v3 y0 y1 y2 y3;go_wp2_with fail;show Calls _ _ #[_,.slice (some ⟨w3.heap.size,0,none⟩) 2 2] (w3.alloc (.cells (I6 [word,S]) 9)) _;rw[←bj,←bm];refine QV.mono ?_;rintro e w5 ⟨rfl,J⟩;have bf:=Hd (bd.trans J);clear J;go_wp2_with fail
    go_round
    case rel=>exact⟨k+1,_,_,by omega,by have:=GR.out;omega,by go_num,bf,by rw[←WU];exact HE.symm,Nat.le_trans (abF Dy ax QW) (Nat.le_of_eq (by rw[Nat.mul_succ,Nat.add_assoc])),fun _=>GR⟩
    case measure=>simp[intOf];omega
   ·have ao:=Hd (bE.symm.trans (sW hx));have hb:(x1 != 0)=true:=by simpa using hx
    clear hx;go_wp2_with fail;rw[←aa];refine bR (v:=.tuple #[]) (results_none rfl _ _ _) rfl ?_;rw[HF,ao];exact⟨rfl,Y,by have:=QW.out;have:=HL.out;show O.length≤_;omega⟩
  ·have av:k=n:=by omega
   subst av;have ao:Hid (R=(O,x1)):=by show _=_;rw[←bE,HN,List.drop_length];rfl
   have bo:¬(k:Int)<(k:Int):=by omega
   go_wp2_with fail;refine bR (v:=.tuple #[]) (results_none rfl _ _ _) rfl ?_;rw[HF,ao];exact⟨rfl,HG,by have:=QW.out;show O.length≤_;omega⟩
theorem Mq(B b:Nat)(l:Bs)(x:Int)(word:ByteArray)(ts:List Df)(A:Option Addr)(c:Nat)(w0 w:World)(hB:B=w0.heap.size)(bb:Below B w0 w)(h:Wr B b l x w)(hrow:fK uD 5 w0 (.slice A ts.length c) ts)(hX:(∀d∈ts,ShX d.tm)∧∀d∈ts,d.name.size≤maxLen)(hT:je w0)(hl:l.length≤800000000)(hw:word.size≤10) :
 Calls Tryz.prog 25 #[.pointer (some ⟨b,0,none⟩),.string word,.slice A ts.length c] w fun r w'=>r=.returned (.tuple #[])∧WG B b (rJ (pQ (bs word)) ts (l,x)).1 (rJ (pQ (bs word)) ts (l,x)).2 w w'∧(rJ (pQ (bs word)) ts (l,x)).1.length≤l.length+4480000:=by
 rw[DN];obtain⟨R,hR⟩:=aj (wN (pQ (bs word)) ts (l,wO x ts.length));rw[←hR];obtain⟨F,HF⟩:=ak (fun(r:Ending)(w':World)=>r=.returned (.tuple #[])∧WG B b R.1 R.2 w w'∧R.1.length≤l.length+4480000);rw[←HF];obtain⟨A',c',he,aw,aQ,hrow⟩:=hrow
 injection he with I _ he2
 subst I he2;have zM:=AO B b l x ts.length w h;obtain⟨n,HN⟩:=ak ts.length;have OG:wO x n=0→n≤64:=KQ;have a7:B≤w.heap.size:=Nat.le_trans h.le (Nat.le_of_lt h.lt);rw[←HN]at zM aw hR⊢;obtain⟨y,hy⟩:=aj (wO x n);rw[←hy]at zM hR OG;unfold maxLen at aQ;have HM:=Hd zM;have HR:=Hd hR;have iF:=Hd hrow;have bL:=Hd hX.1;have KG:=Hd hX.2;have HT:=Hd hT;have qY:=Hd hB;have aE:=Hd bb;have kH:=Hd a7;have bZ:=Hd OG;have HL:=Hd hl;have Dy:=Hd hw;have b4:0≤b:=zl _;clear zM hR hrow hX hT hB bb a7 OG hl hw hy h;go_in;go_wp2_with fail;refine HM.mono ?_;rintro e w1 ⟨rfl,bg⟩;have QU:=Hd bg;clear bg HM;go_wp2_with fail
 go_loopw [15] (fun si wr=>∃(k:Nat)(J:Bs)(x1:Int),k≤n∧k≤64∧si=.int .i64 k∧WG B b J x1 w wr∧wN (pQ (bs word)) (ts.drop k) (J,x1)=R∧J.length≤l.length+70000*k∧(x1=0→n≤64)) (fun i _=>n-(intOf i).toNat)
 case atStart=>exact⟨0,l,y,zl _,zl _,rfl,QU,HR.symm,lr _,bZ⟩
 case round=>
  obtain⟨k,J,x1,hk,b3,rfl,O,aa,bh,a6⟩:=hrel;obtain⟨c2,f2,cc⟩:=wr2 O.1;have HG:=Hd O;have bE:=Hd aa;have QW:=Hd bh;have VQ:=Hd a6;clear O aa bh a6
  by_cases cb:k<n
  ·obtain⟨q,hq⟩:∃q,ts[k]?=some q:=⟨_,gG (by have:=HN.out;omega)⟩
   rcases iF.out with h9|⟨g,o,rfl,O,hrow⟩
   ·rw[h9]at hq;simp at hq
   have G:Below w0.heap.size w0 wr:=by rw[←qY];exact aE.trans HG.2.below
   have bk:=bL q (mG hq);have a8:=HT.below G;have ar:=hrow k q hq;have b7:g<wr.heap.size:=lL O G.size;have hne:g≠wr.heap.size:=by omega
   have b6:b≠wr.heap.size:=by omega
   obtain⟨bl,ba⟩:=ar;have bj:=KG q (mG hq);obtain⟨bm,bn,bo,A5,c5,bp,hV⟩:=ba.open;have hy:=fun(o:Nat)(v:Value)(h:w0.cell? ⟨g,o,none⟩=some v)=>(G.cell (p:=⟨g,o,none⟩) O).trans h;have y0:=hy _ _ bl;have y1:=hy _ _ bm;have y2:=hy _ _ bn;have y3:=hy _ _ bo;have y4:=hy _ _ bp;rw[show o+k*5+1+1=o+k*5+2 from rfl]at y2;rw[show o+k*5+1+2=o+k*5+3 from rfl]at y3;rw[show o+k*5+1+3=o+k*5+4 from rfl]at y4;have xR:=Hd bj;have ar:=True.intro;clear ba bj bl bm bn bo bp hy;have HE:=Hd (bE.symm.trans (DR hq));obtain⟨n5,EP⟩:=ak q.tm.kids.length;rw[←EP]at y4;have HV:=Hd hV;have aS:=Hd a8;have bz:=Hd bk;have b8:(0:Int)≤(k:Int):=by omega
   have b9:(k:Int)<(n:Int):=by omega
   obtain⟨w2,ab⟩:=ak (wr.alloc (.cells #[.string q.name,.int .i64 q.tm.op,.int .i64 q.tm.num,.string q.tm.name,.slice A5 n5 c5] 74));obtain⟨z,HZ⟩:=ak wr.heap.size;have av:=dz ab;have HX:=jZ ab HZ;have ai:=Hd (HG.below av kH);have bC:=Hd (aS.below av);clear hq O hrow G bk a8 ar hV av aS
   by_cases hx:x1=0
   ·subst hx;have GR:=Hd (VQ rfl);clear VQ;obtain⟨v0,v1,v2,v3,v4,-⟩:=q5w HX;obtain⟨nm,tm⟩:=q;simp only at *;obtain⟨e0,ae⟩:=aj (qc 0 nm);obtain⟨e1,I⟩:=aj (dfM nm tm);obtain⟨S,hS⟩:∃S:ByteArray,S=if e0=0 then⟨(aH tm).1.toArray⟩else⟨#[]⟩:=⟨_,rfl⟩;have hsl:S.size≤65536:=by rw[hS];split;exact og tm;exact zl _
    have Y:=akc J word nm tm;rw[←ae,←hS,←I]at Y;have bf:e1=0→nm.size≤24:=fun h=>afS (I ▸ h);have WY:=Fv B b J 0 nm w2 ai.1 xR bC;rw[←ae]at WY
    have aP:Hid (∀W,Below w0.heap.size w0 W→B≤W.heap.size→Wr B b J e0 W→Calls Tryz.prog 57 #[.pointer (some ⟨b,0,none⟩),.agg #[.int .i64 tm.op,.int .i64 tm.num,.string tm.name,.slice A5 n5 c5]] W fun r w'=>r=.returned (.string S)∧WG B b J e1 W w'):=fun W G hB O=>by
     have h:=Mk B b J e0 tm A5 c5 W O hB (bz.at (HV.below G rfl) (HT.below G));unfold Tm.val at h;rw[←EP,show(if e0=0 then(⟨(aH tm).1.toArray⟩:ByteArray)else⟨#[]⟩)=S from hS.symm,show(if e0=0 then(aH tm).2 else e0)=e1 by rw[I,ae];rfl]at h;exact h
    have bw:=Hd WY;have WU:=Hd Y;have aJ:=Hd hsl;have aF:=Hd bf;clear Y WY hsl hS I ae bf;have b5:((0:Int) != 0)=false:=rfl;go_wp2_with fail;rw[←ab]
    try rw[←HZ]
    (try go_wp2_with fail);refine bw.mono ?_;rintro e w3 ⟨rfl,D⟩;have ay:=SH D.2 HX (by have:=HZ.out;omega);obtain⟨v0,v1,v2,v3,v4,-⟩:=q5w ay.out;have b1:=lH ay.out;have D:=ai.trans D;have b0:=Hd (aP w3 (by rw[←qY];exact aE.trans D.2.below) (Nat.le_trans kH D.2.below.size) D.1);have br:=Hd D;clear D ay aP;go_wp2_with fail;refine b0.mono ?_;rintro e w4 ⟨rfl,af⟩;have af:=br.trans af;obtain⟨z5,az⟩:=aj w4.heap.size;obtain⟨w5,gH⟩:=aj (w4.alloc (.cells (I6 [word,nm,⟨#[58,61]⟩,S]) 9));have bd:=dz gH;have bP:=jZ gH az;have ag:=af.below bd kH;have bi:Calls Tryz.prog 30 #[.pointer (some ⟨b,0,none⟩),.slice (some ⟨z5,0,none⟩) 4 4] w5 _:=wP B b z5 J e1 [word,nm,⟨#[58,61]⟩,S] w5 ag.1 bP (by simp) (fun h=>by rw[AQ];have:=aJ.out;have:=Dy.out;have:=QW.out;have:=HL.out;have:=GR.out;have:=aF h;show _+(word.size+nm.size+2+S.size+6)≤_;omega) (Nat.le_trans kH ag.2.below.size);have QV:=Hd bi;have bJ:=Hd gH;have bW:=Hd az;have bu:=Hd ag;clear az gH bd ag bi af v0 v1 v2 v3 v4 y0 y1 y2 y3 y4 b1;go_wp2_with fail;show Calls _ _ #[_,.slice (some ⟨w4.heap.size,0,none⟩) 4 4] (w4.alloc (.cells (I6 [word,nm,⟨#[58,61]⟩,S]) 9)) _;rw[←bJ,←bW];refine QV.mono ?_;rintro e w6 ⟨rfl,O⟩;have bv:=Hd (bu.trans O);clear O
    go_wp2_with fail
    go_round
    case rel=>exact⟨k+1,_,_,by omega,by have:=GR.out;omega,by go_num,bv,by rw[←WU];exact HE.symm,Nat.le_trans (Po Dy aF (by show 2≤10;omega) aJ QW) (Nat.le_of_eq (by rw[Nat.mul_succ,Nat.add_assoc])),fun _=>GR⟩
    case measure=>simp[intOf];omega
   ·have ao:=Hd (bE.symm.trans (sW hx));have hb:(x1 != 0)=true:=by simpa using hx
    clear hx;go_wp2_with fail;rw[←ab];refine bR (v:=.tuple #[]) (results_none rfl _ _ _) rfl ?_;rw[HF,ao];exact⟨rfl,ai,by have:=QW.out;have:=HL.out;show J.length≤_;omega⟩
  ·have ax:k=n:=by omega
   subst ax;have ao:Hid (R=(J,x1)):=by show _=_;rw[←bE,HN,List.drop_length];rfl
   have b2:¬(k:Int)<(k:Int):=by omega
   go_wp2_with fail;refine bR (v:=.tuple #[]) (results_none rfl _ _ _) rfl ?_;rw[HF,ao];exact⟨rfl,HG,by have:=QW.out;show J.length≤_;omega⟩
set_option maxHeartbeats 16000000
abbrev ER:=@q8
structure Km(w:World)(V:Nat→Value)(m:Md):Prop where
 vars:fK GN 4 w (V 0) m.vars
 defs:fK uD 5 w (V 1) m.defs
 init:fK gB 4 w (V 2) m.init
 bF:fK gB 4 w (V 3) m.bF
 next:fK uD 5 w (V 4) m.next
 trans:fK gB 4 w (V 5) m.trans
 fair:fK gB 4 w (V 6) m.fair
 specs:fK Fw 7 w (V 7) m.specs
theorem Km.below{w w':World}{V:Nat→Value}{m:Md}(h:Km w V m)(hb:Below w.heap.size w w'):Km w' V m:=
 ⟨h.vars.below (GN.below hb) hb.size,h.defs.below (uD.below hb) hb.size,h.init.below (fun g o x D=>gB.below hb rfl D) hb.size,h.bF.below (fun g o x D=>gB.below hb rfl D) hb.size,h.next.below (uD.below hb) hb.size,h.trans.below (fun g o x D=>gB.below hb rfl D) hb.size,h.fair.below (fun g o x D=>gB.below hb rfl D) hb.size,h.specs.below (Fw.below hb) hb.size⟩
def aho(f:Fm):Prop:=∀Ae ce A c W,pO W Ae ce A c f→je W→Calls Tryz.prog 28 #[f.val Ae ce A c] W fun e w'=>e=.returned (.tuple #[.string ⟨(dX f).1.toArray⟩,.int .i64 (dX f).2])∧Below W.heap.size W w'
structure JQ(m:Md):Prop where
 defs:∀d∈m.defs,ShX d.tm
 init:∀t∈m.init,ShX t
 bF:∀t∈m.bF,ShX t
 next:∀d∈m.next,ShX d.tm
 trans:∀t∈m.trans,ShX t
 fair:∀t∈m.fair,ShX t
 specs:∀s∈m.specs,aho s.fm
structure WZ(m:Md):Prop where
 vars:∀d∈m.vars,d.name.size≤maxLen
 defs:∀d∈m.defs,d.name.size≤maxLen
 next:∀d∈m.next,d.name.size≤maxLen
 specs:∀d∈m.specs,d.name.size≤maxLen
theorem abH(f:Fm):(dX f).1.length≤65536:=by
 unfold dX
 split
 ·simp
 split
 ·simp
 split
 ·simp
 ·show(aG f 1).1.length≤_;omega
theorem adp{l:Bs}{s:ByteArray}{f:Fm}(h:qc 0 s≠0):mK (l,0) (Kl ⟨s,f⟩)=(l,qc 0 s):=by
 rw[vT]at h⊢
 cases hn:isName (bs s)with
 |false=>
  have D:isName s.data.toList=false:=hn;simp[Kl,mK,D]
 |true=>rw[hn]at h;exact absurd rfl h
theorem afT{l:Bs}{s:ByteArray}{f:Fm}(h:qc 0 s=0):mK (l,0) (Kl ⟨s,f⟩)=(rM l (dX f).2 [⟨#[115,112,101,99]⟩,s,⟨#[58]⟩,⟨(dX f).1.toArray⟩],(dX f).2):=by
 rw[vT]at h
 cases hn:isName (bs s)with
 |false=>rw[hn]at h;cases h
 |true=>
  have D:¬isName s.data.toList=false:=by show ¬isName (bs s)=false;rw[hn];decide
  by_cases h:(dX f).2=0
  ·simp[Kl,mK,D,h,rM,om,Lib.join,pI]
  ·simp[Kl,mK,D,h,rM]
theorem q7w{w:World}{b:Nat}{T:TypeId}{D G I J O Y u6:Value}(h:w.heap[b]?=some (.cells #[D,G,I,J,O,Y,u6] T (0,0))):w.cell? ⟨b,0,none⟩=some D∧w.cell? ⟨b,1,none⟩=some G∧w.cell? ⟨b,2,none⟩=some I∧w.cell? ⟨b,3,none⟩=some J∧w.cell? ⟨b,4,none⟩=some O∧w.cell? ⟨b,5,none⟩=some Y∧w.cell? ⟨b,6,none⟩=some u6∧∀j,w.frozen? ⟨b,j,none⟩=false:=
 ⟨pG h 0 rfl,pG h 1 rfl,pG h 2 rfl,pG h 3 rfl,pG h 4 rfl,pG h 5 rfl,pG h 6 rfl,frz h⟩
theorem QX{B:Nat}{a w:World}(h:Below B a w)(n:Nat):Below B a (w.drewN n):=⟨h.os,h.tape,h.output,h.size,h.block⟩
theorem adq{l:Bs}{v:Vr}:(mK (l,0) (mM v)).1.length≤l.length+70000:=by
 have hlen:(mM v).1.length≤70000:=by
  unfold mM
  split
  ·simp
  ·rename_i hn
   have h2:isName v.name.data.toList=true:=by cases h:isName v.name.data.toList<;>simp_all
   have h3:v.name.size≤24:=AP h2
   split
   ·split
    ·simp
    ·have:v.name.data.toList.length=v.name.size:=rfl;simp only[kV,vP,AJ,List.length_append,List.length_cons,List.length_nil];omega
   ·split
    ·simp
    ·rename_i hf
     have hf:vB v.lo=false∧vB v.hi=false:=by simpa using hf
     have D:=bB _ (DL hf.1).1 (DL hf.1).2;have h5:=bB _ (DL hf.2).1 (DL hf.2).2;have:v.name.data.toList.length=v.name.size:=rfl;simp only[kV,AJ,List.length_append,List.length_cons,List.length_nil];omega
 unfold mK;rw[iN (fun h=>h rfl)]
 split
 ·show l.length≤_;omega
 ·show(l++_).length≤_;rw[List.length_append];omega
theorem I7(V:Nat→Value)(m:Md)(w:World)(hM:Km w V m)(hX:JQ m)(cv:WZ m)(hT:je w) :
 Calls Tryz.prog 12 #[.agg #[V 0,V 1,V 2,V 3,V 4,V 5,V 6,V 7]] w fun r w'=>r=.returned (.tuple #[.string ⟨(kg m).1.toArray⟩,.int .i64 (kg m).2])∧Below w.heap.size w w':=by
 obtain⟨F,HF⟩:=ak (fun(r:Ending)(w':World)=>r=.returned (.tuple #[.string ⟨(kg m).1.toArray⟩,.int .i64 (kg m).2])∧Below w.heap.size w w');rw[←HF];obtain⟨A0,c0,e0,p0,q0,r0⟩:=hM.vars;have R0:=Hd (show fK GN 4 w (.slice A0 m.vars.length c0) m.vars from⟨A0,c0,rfl,p0,q0,r0⟩);obtain⟨A1,c1,e1,p1,q1,r1⟩:=hM.defs;have R1:=Hd (show fK uD 5 w (.slice A1 m.defs.length c1) m.defs from⟨A1,c1,rfl,p1,q1,r1⟩);obtain⟨A2,c2,e2,p2,q2,r2⟩:=hM.init;have R2:=Hd (show fK gB 4 w (.slice A2 m.init.length c2) m.init from⟨A2,c2,rfl,p2,q2,r2⟩);obtain⟨A3,c3,e3,p3,q3,r3⟩:=hM.bF;have R3:=Hd (show fK gB 4 w (.slice A3 m.bF.length c3) m.bF from⟨A3,c3,rfl,p3,q3,r3⟩);obtain⟨A4,c4,e4,p4,q4,r4⟩:=hM.next;have R4:=Hd (show fK uD 5 w (.slice A4 m.next.length c4) m.next from⟨A4,c4,rfl,p4,q4,r4⟩);obtain⟨A5,c5,e5,p5,q5,r5⟩:=hM.trans;have R5:=Hd (show fK gB 4 w (.slice A5 m.trans.length c5) m.trans from⟨A5,c5,rfl,p5,q5,r5⟩);obtain⟨A6,c6,e6,p6,q6,r6⟩:=hM.fair;have R6:=Hd (show fK gB 4 w (.slice A6 m.fair.length c6) m.fair from⟨A6,c6,rfl,p6,q6,r6⟩);obtain⟨A7,c7,e7,p7,q7,r7⟩:=hM.specs;have R7:=Hd (show fK Fw 7 w (.slice A7 m.specs.length c7) m.specs from⟨A7,c7,rfl,p7,q7,r7⟩);rw[e0,e1,e2,e3,e4,e5,e6,e7];obtain⟨n0,N0⟩:=ak m.vars.length;rw[←N0]at R0 p0⊢;unfold maxLen at q0
 obtain⟨n1,N1⟩:=ak m.defs.length;rw[←N1]at R1 p1⊢;unfold maxLen at q1;obtain⟨n2,N2⟩:=ak m.init.length;rw[←N2]at R2 p2⊢;unfold maxLen at q2;obtain⟨n3,N3⟩:=ak m.bF.length;rw[←N3]at R3 p3⊢;unfold maxLen at q3;obtain⟨n4,N4⟩:=ak m.next.length;rw[←N4]at R4 p4⊢;unfold maxLen at q4;obtain⟨n5,N5⟩:=ak m.trans.length;rw[←N5]at R5 p5⊢;unfold maxLen at q5;obtain⟨n6,N6⟩:=ak m.fair.length;rw[←N6]at R6 p6⊢;unfold maxLen at q6;obtain⟨n7,N7⟩:=ak m.specs.length;rw[←N7]at R7 p7⊢;unfold maxLen at q7;clear hM e0 e1 e2 e3 e4 e5 e6 e7 r0 r1 r2 r3 r4 r5 r6 r7;obtain⟨S0,bg⟩:=aj (rJ mM m.vars ([],0));obtain⟨S1,bL⟩:=aj (rJ (pQ kW) m.defs S0);obtain⟨S2,bP⟩:=aj (rJ (xM iA) m.init S1);obtain⟨S3,bW⟩:=aj (rJ (xM eZ) m.bF S2);obtain⟨S4,bZ⟩:=aj (rJ (pQ fE) m.next S3);obtain⟨S5,b0⟩:=aj (rJ (xM fP) m.trans S4);obtain⟨S6,b1⟩:=aj (rJ (xM jL) m.fair S5);obtain⟨S7,aP⟩:=aj (rJ Kl m.specs S6);have ba:I4 m=S7:=by unfold I4;rw[←bg,←bL,←bP,←bW,←bZ,←b0,←b1,←aP]
 have aE:kg m=if S7.2≠0 then([],S7.2)else if 65536<S7.1.length then([],4)else(S7.1,0):=by unfold kg;rw[ba]
 rw[aE]at HF;clear aE ba;obtain⟨B,hB⟩:=aj w.heap.size;obtain⟨b,hb⟩:=aj (B+1);obtain⟨w1,hw1⟩:=aj (w.alloc (.cells #[.slice A0 n0 c0,.slice A1 n1 c1,.slice A2 n2 c2,.slice A3 n3 c3,.slice A4 n4 c4,.slice A5 n5 c5,.slice A6 n6 c6,.slice A7 n7 c7] 28));obtain⟨w2,bk⟩:=aj (w1.alloc (.cells #[.pointer none,.slice none 0 0,.int .i64 0] 83));have hb1:=dz hw1;have bh:=dz bk;have cB:=sAl hw1;have cp:=jZ hw1 hB;have J:=kX bh cp
 have cw:Wr B b [] 0 w2:=by
  rw[bk,hb,hB,←cB];exact Wr.fresh w1 (by omega)
 have Y:Hid (Below B w w2):=by
  have h:=hb1.trans (bh.mono (by omega));rw[←hB]at h;exact h
 have af:B≠b:=by omega
 have oU:=Hd (show B≤w2.heap.size by have:=bh.size;omega);have HT:=Hd hT;have ar:=Hd hX;have bf:=Hd cv;have cI:=Hd hw1;have cJ:=Hd bk;have qY:=Hd hB;have Ot:=Hd hb;have zM:=AO B b [] 0 n0 w2 cw;obtain⟨y,hy⟩:=aj (wO 0 n0);have OG:y=0→n0≤64:=fun h=>KQ (hy.symm.trans h);rw[DN,←N0,←hy]at bg;rw[←hy]at zM;have HM:=Hd zM;have cq:=Hd OG;have JO:=Hd bg;have fA:=Hd bL;have cf:=Hd bP;have Oc:=Hd bW;have zQ:=Hd bZ;have cg:=Hd b0;have ch:=Hd b1;have aS:=Hd aP;have ck:=J;clear cp hT hX cv hw1 bk hb1 bh cB hB hb zM hy OG cw bg bL bP bW bZ b0 b1 aP;obtain⟨v0,v1,v2,v3,v4,v5,v6,v7,-⟩:=ER J;have D:=lH J;go_in;go_wp2_with fail;rw[←cI];(try go_wp2_with fail);rw[←cJ,←qY,←Ot];refine HM.mono ?_;rintro e w3 ⟨rfl,I⟩;clear v0 v1 v2 v3 v4 v5 v6 v7 D;replace J:=SH I.2 J af;obtain⟨v0,v1,v2,v3,v4,v5,v6,v7,-⟩:=ER J;have D:=lH J;have G:=Hd I;clear I HM;go_wp2_with fail;have kP:Hid (∀W,KB B b w2 W→W.heap[B]?=some (.cells #[.slice A0 n0 c0,.slice A1 n1 c1,.slice A2 n2 c2,.slice A3 n3 c3,.slice A4 n4 c4,.slice A5 n5 c5,.slice A6 n6 c6,.slice A7 n7 c7] 28 (0,0))):=fun W hk=>(SH hk ck af).out;clear ck
 go_loopw [22] (fun si wr=>∃(k:Nat)(O:Bs)(x1:Int),k≤n0∧si=.int .i64 k∧WG B b O x1 w2 wr∧wN mM (m.vars.drop k) (O,x1)=S0∧O.length≤70000*k∧O.length≤4480000∧(x1=0→n0≤64)) (fun i _=>n0-(intOf i).toNat)
 case atStart=>exact⟨0,[],y,zl _,rfl,G,JO.symm,zl _,zl _,cq⟩
 case round=>
  obtain⟨k,O,x1,hk,rfl,I,aa,a8,cy,a6⟩:=hrel;clear v0 v1 v2 v3 v4 v5 v6 v7 D cq JO;replace J:Hid (wr.heap[B]?=some (.cells #[.slice A0 n0 c0,.slice A1 n1 c1,.slice A2 n2 c2,.slice A3 n3 c3,.slice A4 n4 c4,.slice A5 n5 c5,.slice A6 n6 c6,.slice A7 n7 c7] 28 (0,0))):=kP wr I.2;obtain⟨c2,f2,ai⟩:=wr2 I.1;replace G:=Hd I;have bE:=Hd aa;have QW:=Hd a8;have bd:=Hd cy;have VQ:=Hd a6;clear I aa a8 cy a6
  by_cases dc:k<n0
  ·obtain⟨q,hq⟩:∃q,m.vars[k]?=some q:=⟨_,gG (by have:=N0.out;omega)⟩;obtain⟨A',c',he,-,-,hrow⟩:=R0.out
   injection he with aw hen he2
   clear hen;subst aw he2
   rcases hrow with h9|⟨g,o,rfl,ax,hrow⟩
   ·rw[h9]at hq;simp at hq
   have ae:Below w.heap.size w wr:=by rw[←qY];exact Y.trans G.2.below
   have cW:g<wr.heap.size:=lL ax ae.size;obtain⟨y0,y1,y2,y3⟩:=GN.below ae _ _ _ ax (hrow k q hq);have az:=bf.vars q (mG hq);have HE:=Hd (bE.symm.trans (DR hq));have cX:(0:Int)≤(k:Int):=by omega
   have cY:(k:Int)<(n0:Int):=by omega
   have hne:g≠wr.heap.size:=by omega
   have cV:b≠wr.heap.size:=by omega
   have a7:=HT.below ae;obtain⟨nm,bo,lo,hh⟩:=q;simp only at y0 y1 y2 y3 az;obtain⟨w5,ao⟩:=ak (wr.alloc (.cells #[.string nm,.bool bo,.int .i64 lo,.int .i64 hh] 45));obtain⟨z,HZ⟩:=ak wr.heap.size;have av:=dz ao;have cn:=jZ ao HZ;have ag:=Hd (G.below av oU);have bp:=Hd (a7.below av);have xR:=Hd az;clear hq hrow ax ae av a7 az
   by_cases hx:x1=0
   ·subst hx;have GR:=Hd (VQ rfl);clear VQ;have hvar:=abE B b O ⟨nm,bo,lo,hh⟩ w5 ag.1 (Nat.le_trans oU ag.2.below.size) xR bp (by have:=bd.out;omega);have br:=Hd (adq (l:=O) (v:=⟨nm,bo,lo,hh⟩));obtain⟨st,bb⟩:=aj (mK (O,0) (mM ⟨nm,bo,lo,hh⟩));rw[←bb]at hvar HE br;have HV:=Hd hvar;clear hvar bb;have cQ:((0:Int)==0)=true:=rfl;go_wp2_with fail;rw[←ao]
    try rw[←HZ]
    (try go_wp2_with fail);refine HV.mono ?_;rintro e w6 ⟨rfl,aQ⟩;have aJ:=Hd (ag.trans aQ);clear aQ y0 y1 y2 y3 HV;go_wp2_with fail
    go_round
    case rel=>exact⟨k+1,st.1,st.2,by omega,by go_num,aJ,HE.symm,Nat.le_trans br (by have:=QW.out;omega),Nat.le_trans br (by have:=QW.out;have:=GR.out;omega),fun _=>GR⟩
    case measure=>simp[intOf];omega
   ·have hb:(x1==0)=false:=by simpa using hx
    have bb:wN mM (m.vars.drop (k+1)) (O,x1)=S0:=by
     rw[sW hx,←bE,sW hx]
    have bn:=Hd bb;clear hx bb;go_wp2_with fail;rw[←ao];try go_wp2_with fail
    go_round
    case rel=>exact⟨k+1,O,x1,by omega,by go_num,ag,bn,by have:=QW.out;omega,bd,VQ⟩
    case measure=>simp[intOf];omega
  ·have ay:k=n0:=by omega
   subst ay;have hS:S0=(O,x1):=by rw[←bE,N0,List.drop_length];rfl
   have bu:Hid (S0.1.length≤4480000):=by rw[hS];exact bd
   replace G:Hid (WG B b S0.1 S0.2 w2 wr):=by rw[hS];exact G
   have b5:¬(k:Int)<(k:Int):=by omega
   clear hS bE QW bd VQ c2 f2 ai;obtain⟨v0,v1,v2,v3,v4,v5,v6,v7,-⟩:=ER J;have D:=lH J
   have hc:Calls Tryz.prog 25 #[.pointer (some ⟨b,0,none⟩),.string ⟨#[100,101,102]⟩,.slice A1 n1 c1] wr fun r w'=>r=.returned (.tuple #[])∧WG B b S1.1 S1.2 wr w'∧S1.1.length≤S0.1.length+4480000:=by
    have h:=Mq B b S0.1 S0.2 ⟨#[100,101,102]⟩ m.defs A1 c1 w wr qY (Y.trans G.2.below) G.1 (by rw[←N1];exact R1) ⟨ar.defs,bf.defs⟩ HT (by have:=bu.out;omega) (by decide);rw[←N1]at h;rw[fA];exact h
   have HC:=Hd hc;clear hc;go_wp2_with fail;refine HC.mono ?_;rintro e wn ⟨rfl,I,hlen⟩;clear v0 v1 v2 v3 v4 v5 v6 v7 D;replace J:=SH I.2 J af;replace G:=Hd (G.trans I);have bv:Hid (S1.1.length≤8960000):=by have:=bu.out;show S1.1.length≤_;omega
   clear I hlen HC bu fA wr;rename World=>wr;obtain⟨v0,v1,v2,v3,v4,v5,v6,v7,-⟩:=ER J;have D:=lH J
   have hc:Calls Tryz.prog 26 #[.pointer (some ⟨b,0,none⟩),.string ⟨#[105,110,105,116]⟩,.slice A2 n2 c2] wr fun r w'=>r=.returned (.tuple #[])∧WG B b S2.1 S2.2 wr w'∧S2.1.length≤S1.1.length+4480000:=by
    have h:=yE B b S1.1 S1.2 ⟨#[105,110,105,116]⟩ m.init A2 c2 w wr qY (Y.trans G.2.below) G.1 (by rw[←N2];exact R2) ar.init HT (by have:=bv.out;omega) (by decide);rw[←N2]at h;rw[cf];exact h
   have HC:=Hd hc;clear hc;go_wp2_with fail;refine HC.mono ?_;rintro e wn ⟨rfl,I,hlen⟩;clear v0 v1 v2 v3 v4 v5 v6 v7 D;replace J:=SH I.2 J af;replace G:=Hd (G.trans I);have bw:Hid (S2.1.length≤13440000):=by have:=bv.out;show S2.1.length≤_;omega
   clear I hlen HC bv cf wr;rename World=>wr;obtain⟨v0,v1,v2,v3,v4,v5,v6,v7,-⟩:=ER J;have D:=lH J
   have hc:Calls Tryz.prog 26 #[.pointer (some ⟨b,0,none⟩),.string ⟨#[105,110,118,97,114]⟩,.slice A3 n3 c3] wr fun r w'=>r=.returned (.tuple #[])∧WG B b S3.1 S3.2 wr w'∧S3.1.length≤S2.1.length+4480000:=by
    have h:=yE B b S2.1 S2.2 ⟨#[105,110,118,97,114]⟩ m.bF A3 c3 w wr qY (Y.trans G.2.below) G.1 (by rw[←N3];exact R3) ar.bF HT (by have:=bw.out;omega) (by decide);rw[←N3]at h;rw[Oc];exact h
   have HC:=Hd hc;clear hc;go_wp2_with fail;refine HC.mono ?_;rintro e wn ⟨rfl,I,hlen⟩;clear v0 v1 v2 v3 v4 v5 v6 v7 D;replace J:=SH I.2 J af;replace G:=Hd (G.trans I);have bz:Hid (S3.1.length≤17920000):=by have:=bw.out;show S3.1.length≤_;omega
   clear I hlen HC bw Oc wr;rename World=>wr;obtain⟨v0,v1,v2,v3,v4,v5,v6,v7,-⟩:=ER J;have D:=lH J
   have hc:Calls Tryz.prog 25 #[.pointer (some ⟨b,0,none⟩),.string ⟨#[110,101,120,116]⟩,.slice A4 n4 c4] wr fun r w'=>r=.returned (.tuple #[])∧WG B b S4.1 S4.2 wr w'∧S4.1.length≤S3.1.length+4480000:=by
    have h:=Mq B b S3.1 S3.2 ⟨#[110,101,120,116]⟩ m.next A4 c4 w wr qY (Y.trans G.2.below) G.1 (by rw[←N4];exact R4) ⟨ar.next,bf.next⟩ HT (by have:=bz.out;omega) (by decide);rw[←N4]at h;rw[zQ];exact h
   have HC:=Hd hc;clear hc;go_wp2_with fail;refine HC.mono ?_;rintro e wn ⟨rfl,I,hlen⟩;clear v0 v1 v2 v3 v4 v5 v6 v7 D;replace J:=SH I.2 J af;replace G:=Hd (G.trans I);have bC:Hid (S4.1.length≤22400000):=by have:=bz.out;show S4.1.length≤_;omega
   clear I hlen HC bz zQ wr;rename World=>wr;obtain⟨v0,v1,v2,v3,v4,v5,v6,v7,-⟩:=ER J;have D:=lH J
   have hc:Calls Tryz.prog 26 #[.pointer (some ⟨b,0,none⟩),.string ⟨#[116,114,97,110,115]⟩,.slice A5 n5 c5] wr fun r w'=>r=.returned (.tuple #[])∧WG B b S5.1 S5.2 wr w'∧S5.1.length≤S4.1.length+4480000:=by
    have h:=yE B b S4.1 S4.2 ⟨#[116,114,97,110,115]⟩ m.trans A5 c5 w wr qY (Y.trans G.2.below) G.1 (by rw[←N5];exact R5) ar.trans HT (by have:=bC.out;omega) (by decide);rw[←N5]at h;rw[cg];exact h
   have HC:=Hd hc;clear hc;go_wp2_with fail;refine HC.mono ?_;rintro e wn ⟨rfl,I,hlen⟩;clear v0 v1 v2 v3 v4 v5 v6 v7 D;replace J:=SH I.2 J af;replace G:=Hd (G.trans I);have bJ:Hid (S5.1.length≤26880000):=by have:=bC.out;show S5.1.length≤_;omega
   clear I hlen HC bC cg wr;rename World=>wr;obtain⟨v0,v1,v2,v3,v4,v5,v6,v7,-⟩:=ER J;have D:=lH J
   have hc:Calls Tryz.prog 26 #[.pointer (some ⟨b,0,none⟩),.string ⟨#[102,97,105,114]⟩,.slice A6 n6 c6] wr fun r w'=>r=.returned (.tuple #[])∧WG B b S6.1 S6.2 wr w'∧S6.1.length≤S5.1.length+4480000:=by
    have h:=yE B b S5.1 S5.2 ⟨#[102,97,105,114]⟩ m.fair A6 c6 w wr qY (Y.trans G.2.below) G.1 (by rw[←N6];exact R6) ar.fair HT (by have:=bJ.out;omega) (by decide);rw[←N6]at h;rw[ch];exact h
   have HC:=Hd hc;clear hc;go_wp2_with fail;refine HC.mono ?_;rintro e wn ⟨rfl,I,hlen⟩;clear v0 v1 v2 v3 v4 v5 v6 v7 D;replace J:=SH I.2 J af;replace G:=Hd (G.trans I);have cs:Hid (S6.1.length≤31360000):=by have:=bJ.out;show S6.1.length≤_;omega
   clear I hlen HC bJ ch wr;rename World=>wr;obtain⟨v0,v1,v2,v3,v4,v5,v6,v7,-⟩:=ER J;have D:=lH J;have W_:=AO B b S6.1 S6.2 n7 wr G.1;obtain⟨y7,bl⟩:=aj (wO S6.2 n7);have cr:Hid (y7=0→n7≤64):=fun h=>KQ (bl.symm.trans h);have aP:S7=wN Kl m.specs (S6.1,y7):=by rw[aS,bl,N7];exact DN Kl m.specs S6.1 S6.2
   rw[←bl]at W_;have cb:=Hd W_;clear aS;have aS:=Hd aP;clear W_ bl aP;go_wp2_with fail;refine cb.mono ?_;rintro e wn ⟨rfl,I⟩;clear v0 v1 v2 v3 v4 v5 v6 v7 D;replace J:=SH I.2 J af;replace G:=Hd (G.trans I);clear I cb wr;rename World=>wr;obtain⟨v0,v1,v2,v3,v4,v5,v6,v7,-⟩:=ER J;have D:=lH J;go_wp2_with fail
   go_loopw [67] (fun si ws=>∃(k:Nat)(O:Bs)(x1:Int),k≤n7∧k≤64∧si=.int .i64 k∧WG B b O x1 w2 ws∧wN Kl (m.specs.drop k) (O,x1)=S7∧O.length≤40000000+70000*k∧(x1=0→n7≤64)) (fun i _=>n7-(intOf i).toNat)
   case atStart=>exact⟨0,S6.1,y7,zl _,zl _,rfl,G,aS.symm,by have:=cs.out;omega,cr⟩
   case round=>
    obtain⟨k,O,x1,hk,di,rfl,I,aa,a8,a6⟩:=hrel;rename World=>ws;clear v0 v1 v2 v3 v4 v5 v6 v7 D cr aS G J cs;obtain⟨c2,f2,ai⟩:=wr2 I.1;have G:=Hd I;have bE:=Hd aa;have QW:=Hd a8;have VQ:=Hd a6;clear I aa a8 a6
    by_cases dc:k<n7
    ·obtain⟨q,hq⟩:∃q,m.specs[k]?=some q:=⟨_,gG (by have:=N7.out;omega)⟩;obtain⟨A',c',he,-,-,hrow⟩:=R7.out
     injection he with aw hen he2
     clear hen;subst aw he2
     rcases hrow with h9|⟨g,o,rfl,ax,hrow⟩
     ·rw[h9]at hq;simp at hq
     have ae:Below w.heap.size w ws:=by rw[←qY];exact Y.trans G.2.below
     have cW:g<ws.heap.size:=lL ax ae.size;obtain⟨y0,cU⟩:=Fw.below ae _ _ _ ax (hrow k q hq);have az:=bf.specs q (mG hq);have ct:=(hrow k q hq).2;obtain⟨z0,z1,z2,z3,A9,c9,A8,c8,z4,z5,b4⟩:=ct.open;clear cU ct;have hy:=fun(o:Nat)(v:Value)(h:w.cell? ⟨g,o,none⟩=some v)=>(ae.cell (p:=⟨g,o,none⟩) ax).trans h;have y1:=hy _ _ z0;have y2:=hy _ _ z1;have y3:=hy _ _ z2;have y4:=hy _ _ z3;have y5:=hy _ _ z4;have y6:=hy _ _ z5;rw[show o+k*7+1+1=o+k*7+2 from rfl]at y2;rw[show o+k*7+1+2=o+k*7+3 from rfl]at y3;rw[show o+k*7+1+3=o+k*7+4 from rfl]at y4;rw[show o+k*7+1+4=o+k*7+5 from rfl]at y5;rw[show o+k*7+1+5=o+k*7+6 from rfl]at y6;have HE:=Hd (bE.symm.trans (DR hq));have cX:(0:Int)≤(k:Int):=by omega
     have cY:(k:Int)<(n7:Int):=by omega
     have hne:g≠ws.heap.size:=by omega
     have cV:b≠ws.heap.size:=by omega
     have a7:=HT.below ae;have b8:=ar.specs q (mG hq);clear z0 z1 z2 z3 z4 z5 hy;obtain⟨nm,fm⟩:=q;simp only at y0 y1 y2 y3 y4 y5 y6 az b8 b4;obtain⟨n9,b7⟩:=aj fm.tm.kids.length;obtain⟨n8,b6⟩:=aj fm.kids.length;rw[←b7]at y5;rw[←b6]at y6;obtain⟨w5,gH⟩:=aj (ws.alloc (.cells #[.string nm,.int .i64 fm.op,.int .i64 fm.tm.op,.int .i64 fm.tm.num,.string fm.tm.name,.slice A9 n9 c9,.slice A8 n8 c8] 69));obtain⟨z,hz⟩:=aj ws.heap.size;have df:z≠b:=by omega
     have av:=dz gH;have cn:=jZ gH hz;have ao:=Hd gH;have HZ:=Hd hz;have ag:=Hd (G.below av oU);have bp:=Hd (a7.below av);have xR:=Hd az;have cC:=Hd b4;have cL:=Hd b8;have cH:=Hd b7;have cG:=Hd b6;clear hq hrow ae gH hz av a7 az b4 b8 b7 b6
     by_cases hx:x1=0
     ·subst hx;have GR:=Hd (VQ rfl);clear VQ;obtain⟨e0,ru⟩:=ak (qc 0 nm);have WY:=Fv B b O 0 nm w5 ag.1 xR bp;rw[←ru]at WY;have cc:=Hd WY;clear WY;have cQ:((0:Int) != 0)=false:=rfl;go_wp2_with fail;rw[←ao]
      try rw[←HZ]
      (try go_wp2_with fail);refine cc.mono ?_;rintro e w6 ⟨rfl,aQ⟩;have Pq:=SH aQ.2 cn df;have aJ:=Hd (ag.trans aQ);clear aQ cc y0 y1 y2 y3 y4 y5 y6 c2 f2 ai;obtain⟨c2,f2,ai⟩:=wr2 aJ.1;obtain⟨v0,v1,v2,v3,v4,v5,v6,-⟩:=q7w Pq;have de:=lH Pq
      by_cases aF:e0=0
      ·obtain⟨S,hS⟩:∃S:ByteArray,S=⟨(dX fm).1.toArray⟩:=⟨_,rfl⟩;obtain⟨e1,aw⟩:=aj (dX fm).2;have hsl:S.size≤65536:=by rw[hS];exact abH fm
       have ab:=afT (l:=O) (s:=nm) (f:=fm) (ru.symm.trans aF);rw[←hS,←aw]at ab;have cA:nm.size≤24:=Pp (ru.symm.trans aF);have b2:Below w.heap.size w w6:=by rw[←qY];exact Y.trans aJ.2.below
       have aE:=cL A9 c9 A8 c8 w6 (cC.below b2 rfl) (HT.below b2);unfold Fm.val at aE;rw[←cH,←cG,←hS,←aw]at aE;have ci:=Hd aE;have WU:=Hd ab;have cj:=Hd hsl;have cd:=Hd cA;subst aF;clear hS aw hsl ab cA b2 aE;have dj:((0:Int)==0)=true:=rfl;go_wp2_with fail;refine ci.mono ?_;rintro e w7 ⟨rfl,iY⟩;have Ep:=aJ.below iY oU;have b3:=oh B b O 0 e1 w7 Ep.1;rw[show yD 0 e1=e1 from rfl]at b3;have vN:=Hd b3;have cE:=Hd Ep;clear iY Ep b3 ci v0 v1 v2 v3 v4 v5 v6 de c2 f2 ai;go_wp2_with fail;refine vN.mono ?_;rintro e w8 ⟨rfl,bi⟩;have bi:=cE.trans bi;obtain⟨z9,b9⟩:=aj w8.heap.size;obtain⟨w9,mE⟩:=aj (w8.alloc (.cells (I6 [⟨#[115,112,101,99]⟩,nm,⟨#[58]⟩,S]) 9));have Ub:=dz mE;have cN:=jZ mE b9;have bj:=bi.below Ub oU;have cz:Calls Tryz.prog 30 #[.pointer (some ⟨b,0,none⟩),.slice (some ⟨z9,0,none⟩) 4 4] w9 _:=wP B b z9 O e1 [⟨#[115,112,101,99]⟩,nm,⟨#[58]⟩,S] w9 bj.1 cN (by simp) (fun h=>by rw[AQ];have:=cj.out;have:=QW.out;have:=cd.out;show _+(4+nm.size+1+S.size+6)≤_;omega) (Nat.le_trans oU bj.2.below.size);have QV:=Hd cz;have cK:=Hd mE;have cP:=Hd b9;have cF:=Hd bj;clear b9 mE Ub bj cz bi vN;go_wp2_with fail
       show Calls _ _ #[_,.slice (some ⟨w8.heap.size,0,none⟩) 4 4] (w8.alloc (.cells (I6 [⟨#[115,112,101,99]⟩,nm,⟨#[58]⟩,S]) 9)) _;rw[←cK,←cP];refine QV.mono ?_;rintro e wa ⟨rfl,cx⟩;have tX:=Hd (cF.trans cx);clear cx QV;go_wp2_with fail
       go_round
       case rel=>exact⟨k+1,_,_,by omega,by have:=GR.out;omega,by go_num,tX,by rw[←WU];exact HE.symm,Nat.le_trans (Po (by decide) (fun _=>cd) (by decide) cj QW) (Nat.le_of_eq (by rw[Nat.mul_succ,Nat.add_assoc])),fun _=>GR⟩
       case measure=>simp[intOf];omega
      ·have ab:=adp (l:=O) (s:=nm) (f:=fm) (fun h=>aF (ru.trans h));rw[←ru]at ab;have WU:=Hd ab;have hb:(e0==0)=false:=by simpa using aF
       have cM:=Hd aF;clear ab aF;go_wp2_with fail
       go_round
       case rel=>exact⟨k+1,O,e0,by omega,by have:=GR.out;omega,by go_num,aJ,by rw[←WU];exact HE.symm,by have:=QW.out;omega,fun h=>absurd h cM⟩
       case measure=>simp[intOf];omega
     ·have bm:=Hd (bE.symm.trans (sW hx));clear bE HE G;have hb:(x1 != 0)=true:=by simpa using hx
      go_wp2_with fail;rw[←ao];have G:=ag;have kH:=Hd (Y.trans G.2.below);obtain⟨c2,f2,ai⟩:=wr2 G.1;rw[bm]at HF;have hb:(x1 != 0)=true:=by simpa using hx
      rw[iP hx]at HF;go_wp2_with fail
      go_quiet (fail)
      go_wp2_with fail;rw[HF];rw[qY]at kH;exact⟨rfl,QX kH _⟩
    ·have ay:k=n7:=by omega
     subst ay;have bm:Hid (S7=(O,x1)):=by show _=_;rw[←bE,N7,List.drop_length];rfl
     have b5:¬(k:Int)<(k:Int):=by omega
     clear bE QW VQ c2 f2 ai;have kH:=Hd (Y.trans G.2.below);obtain⟨c2,f2,ai⟩:=wr2 G.1;rw[bm]at HF
     by_cases hx:x1=0
     ·subst hx;have hb:((0:Int) != 0)=false:=rfl;rw[iN (fun h=>h rfl)]at HF;have QV:=Hd (adk B b O 0 _ G.1);have bn:=Hd (adl B b O 0 _ G.1)
      by_cases h6:65536<O.length
      ·have cS:(65536:Int)<(O.length:Int):=by omega
       rw[iP h6]at HF;go_wp2_with fail;refine QV.mono ?_;rintro e w9 ⟨rfl,mE⟩;rw[mE];clear mE;go_wp2_with fail;rw[HF];rw[qY]at kH;exact⟨rfl,kH⟩
      ·have cS:¬(65536:Int)<(O.length:Int):=by omega
       rw[iN h6]at HF;go_wp2_with fail;refine QV.mono ?_;rintro e w9 ⟨rfl,mE⟩;rw[mE];clear mE;go_wp2_with fail;refine bn.mono ?_;rintro e w9 ⟨rfl,Ub⟩;have VT:=Hd (kH.trans Ub);clear Ub;go_wp2_with fail;rw[HF];rw[qY]at VT;exact⟨rfl,VT⟩
     ·have hb:(x1 != 0)=true:=by simpa using hx
      rw[iP hx]at HF;go_wp2_with fail
      go_quiet (fail)
      go_wp2_with fail;rw[HF];rw[qY]at kH;exact⟨rfl,QX kH _⟩
end Go.Proofs.YtkhoeoilamddaaaGreatDoor
