/- Walks and plain words: PrsMx PrsO. -/
import Derived.Test.YtkhoeoilamddaaaGreatDoorQPrsJ
namespace Go.Proofs.YtkhoeoilamddaaaGreatDoor
open Go.RowKit
set_option linter.unusedVariables false
structure nu(R:Nat)(A:Option Addr)(c d:Nat)(l:List Tok)(i rb rs:Nat)(wb wr:World):Prop where
 bN:iZ wr R A l.length c i d
 box:vV R rb wr
 res:wr.heap[rs]?=some (.cells #[.int .i64 0,.int .i64 0,.string ⟨#[]⟩,.slice none 0 0] 64 (0,0))
 only:Only (fun q=>q=R) wb wr
 big:rs<wr.heap.size
theorem nu.drewN{R c d i D rs:Nat}{A:Option Addr}{l:List Tok}{wb wr:World}(h:nu R A c d l i D rs wb wr)(m:Nat):nu R A c d l i D rs wb (wr.drewN m):=⟨h.bN.drewN m,⟨h.box.1,h.box.2.1,h.box.2.2⟩,h.res,h.only.drewN m,h.big⟩
theorem nu.Et{R c d i j G rs:Nat}{A:Option Addr}{l:List Tok}{wb wr w':World}(h:nu R A c d l i G rs wb wr)(I:rs≠R)(D:Only (fun q=>q=R) wr w')(hr:iZ w' R A l.length c j d):nu R A c d l j G rs wb w':=⟨hr,h.box.only D,(D.block rs h.big I).trans h.res,h.only.trans D,lL h.big D.size⟩
theorem jh{l:List Tok}{i:Nat}{k:Int}{s:Bs}(h:ah l i k s=true):∃t,l[i]?=some t∧t.kind=k∧t.text=s:=by
 unfold ah at h
 cases ht:l[i]? with
 |none=>rw[ht]at h;cases h
 |some t=>rw[ht]at h;simp at h;exact⟨t,rfl,h.1,h.2⟩
theorem Only.ako{R tb:Nat}{w w1 w2:World}(h:Only (fun q=>q=R) w w1)(k:Only (fun q=>q=R∨q=tb) w1 w2)(ht:w.heap.size≤tb):Only (fun q=>q=R) w w2:=
 ⟨k.os.trans h.os,k.tape.trans h.tape,k.output.trans h.output,Nat.le_trans h.size k.size,fun q hq hf=>(k.block q (lL hq h.size) (fun e=>e.elim hf (fun e=>by omega))).trans (h.block q hq hf)⟩
set_option maxRecDepth 100000
set_option maxHeartbeats 64000000
theorem G8{l:List Tok}{i:Nat}{t:Tok}(h:l[i]?=some t):rC l i=t.n:=by unfold rC;rw[h]
theorem DW{l:List Tok}{i:Nat}{t:Tok}(h:l[i]?=some t):pJ l i=t.text:=by unfold pJ;rw[h]
theorem abP(R:Nat)(A:Option Addr)(c d:Nat)(l:List Tok)(T:jN)(hd:d≤256)(hT:d<256→KR R A c (d+1) l 122 (.pointer (some ⟨R,0,none⟩)) (fun _=>True) T) :
 KR R A c d l 204 (.pointer (some ⟨R,0,none⟩)) (fun _=>True) (bM l (if d=256 then none else some T)):=by
 intro i w hi hR hP _;obtain⟨X,HX⟩:=ak (bM l (if d=256 then none else some T) i);rw[←HX];have hlen:=hP.len;have Og:=hR.lt;obtain⟨wb,bj⟩:=aj (w.alloc (.cells #[.pointer (some ⟨R,0,none⟩)] 182));have bJ:=dz bj;have cy:wb.heap.size=w.heap.size+1:=by rw[bj];simp
 have bo:Only (fun q=>q=R) w wb:=Ob bJ;have bz:iZ wb R A l.length c i d:=hR.below bJ Og;have bw:=hP.only bo;obtain⟨rb,b6⟩:=aj w.heap.size;obtain⟨rs,bp⟩:=aj wb.heap.size;have G5:vV R rb wb:=⟨by rw[bj,b6];exact(cR _ _ 0 _ _ (0,0) (eu w _)).trans rfl,by omega,by omega⟩;obtain⟨w1,hw1⟩:=aj (wb.alloc (.cells #[.int .i64 0,.int .i64 0,.string ⟨#[]⟩,.slice none 0 0] 64));have hb1:=dz hw1;have c8:w1.heap.size=rs+1:=by rw[hw1,bp];simp
 have ct:w1.heap[rs]?=some (.cells #[.int .i64 0,.int .i64 0,.string ⟨#[]⟩,.slice none 0 0] 64 (0,0)):=by rw[hw1,bp];exact eu wb _
 have b1:Only (fun q=>q=R) wb w1:=Ob hb1;have D:=Hd (show nu R A c d l i rb rs wb w1 from⟨bz.below hb1 bz.lt,G5.only b1,ct,b1,by omega⟩);have IB:rs≠R:=by omega
 have cg:rb≠R:=by omega
 have dc:rb≠rs:=by omega
 have fC:R<wb.heap.size:=by omega
 have ch:rs=w.heap.size+1:=by omega
 obtain⟨F0,Uk⟩:=aj (PQ R A c d l i X w);obtain⟨F,vU⟩:=aj (PQ R A c d l i X wb);have IK:Hid (∀e w',F e w'→F0 e w'):=fun e w' h=>by rw[vU]at h;rw[Uk];exact h.back bo
 rw[←Uk];have ag:=Hd (fun(W:World)(k:Int)(s:ByteArray)(h:nu R A c d l i rb rs wb W)=>DI R A c i d l k s W h.bN (bw.only h.only) (by omega));have HP:=Hd bw;have bE:=Hd vU;have kI:=Hd Uk;have cA:=Hd hP;have cz:=Hd bo;have jy:=Hd bj;have BI:=Hd bp;have ci:=Hd ch;have VW:=Hd b6;have p9:=Hd cy;have cF:=Hd hw1;clear Uk vU bj bJ cy bo bz bw b6 bp ch G5 hw1 hb1 c8 ct b1 hP hR;go_in;go_wp2_with fail;rw[←jy,←cF,←ci,←VW]
 by_cases dB:ah l i 4 [45]=true
 ·by_cases hk:jd l (i+1) 1=true
  ·obtain⟨t,ht,ax⟩:=wh hk
   have e:bM l (if d=256 then none else some T) i=(.ok (j6 (-t.n)) (i+1+1)):=by
    unfold bM;rw[iP dB,iP hk,G8 ht]
   replace bE:Hid (F=PQ R A c d l i (.ok (j6 (-t.n)) (i+1+1)) wb):=by show _=_;rw[bE,HX,e]
   replace kI:Hid (F0=PQ R A c d l i (.ok (j6 (-t.n)) (i+1+1)) w):=by show _=_;rw[kI,HX,e]
   clear HX e hk;have hk:=ax;clear ax;have I:=D.box.1;have J:=D.box.2.1;have hI:=ag w1 4 ⟨#[45]⟩ D;rw[show ah l i 4 (bs ⟨#[45]⟩)=true from dB]at hI;have Y:=Hd hI;clear hI;go_wp2_with fail;refine Y.mono ?_;rintro e w2 ⟨rfl,m,wQ⟩;have O:Hid (nu R A c d l i rb rs wb w2):=by show nu _ _ _ _ _ _ _ _ _ _;rw[wQ];exact D.drewN m
   clear D Y wQ I J;rename Hid (nu _ _ _ _ _ _ _ _ _ _)=>D;have I:=D.box.1;have J:=D.box.2.1;have c1:=D.bN.c1;have f1:=D.bN.frozen 1;have ai:=D.bN.lt;obtain⟨W2,bC⟩:=aj (w2.setCell ⟨R,1,none⟩ (.int .i64 ((i:Int)+1)));have hwn:yU R A l.length c d (i+1) w2 W2:=by rw[bC];exact jf (m:=0) D.bN
   have O:=Hd (D.Et IB hwn.2.1 hwn.1);have b2:=O.box.1;have aJ:=O.box.2.1;have cK:=HP.rng t (mG ht);have HN:=Hd (Ti R A c (i+1) d l t W2 O.bN (HP.only O.only) ht hk);have bZ:IntKind.i64.wrap (-t.n)=-t.n:=IntWalk.i64_in _ (by omega);have ar:=(gE.1 ht).1;obtain⟨nn,Iy⟩:=ak t.n;rw[←Iy]at bZ;have ab:=Hd bC;clear bC hwn cK ht hk;go_wp2_with fail;rw[←ab];go_wp2_with fail;refine HN.mono ?_;rintro e w9 ⟨rfl,fB⟩;rw[←Iy];have FC:=Hd (O.Et IB fB.2.1 fB.1);clear D O fB c1 f1 I J b2 aJ HN;rename Hid (nu _ _ _ _ _ _ _ _ _ _)=>D;obtain⟨v0,v1,v2,v3,zq⟩:=q4 D.res;have dp:=D.big;go_wp2_with fail;have wR:=Hd D.res;clear v0 v1 v2 v3 zq;refine bR (Gg (ni wR)) rfl ?_;refine IK _ _ ?_;rw[bE,BI,←Iy];exact oq (t:=j6 (-nn)) (A':=none) (c':=0) _ _ _ _ (by omega) (by omega) fC D.bN D.only (aD.leaf (by show 0≤_;exact zl _))
  ·replace hk:jd l (i+1) 1=false:=by simpa using hk
   have e:bM l (if d=256 then none else some T) i=(.bad (i+1) 16):=by
    unfold bM;rw[iP dB,iN (by rw[hk];decide)]
   replace bE:Hid (F=PQ R A c d l i (.bad (i+1) 16) wb):=by show _=_;rw[bE,HX,e]
   replace kI:Hid (F0=PQ R A c d l i (.bad (i+1) 16) w):=by show _=_;rw[kI,HX,e]
   clear HX e;have I:=D.box.1;have J:=D.box.2.1;have hI:=ag w1 4 ⟨#[45]⟩ D;rw[show ah l i 4 (bs ⟨#[45]⟩)=true from dB]at hI;have Y:=Hd hI;clear hI;go_wp2_with fail;refine Y.mono ?_;rintro e w2 ⟨rfl,m,wQ⟩;have O:Hid (nu R A c d l i rb rs wb w2):=by show nu _ _ _ _ _ _ _ _ _ _;rw[wQ];exact D.drewN m
   clear D Y wQ I J;rename Hid (nu _ _ _ _ _ _ _ _ _ _)=>D;have I:=D.box.1;have J:=D.box.2.1;have c1:=D.bN.c1;have f1:=D.bN.frozen 1;have ai:=D.bN.lt;obtain⟨W2,ab⟩:=ak (w2.setCell ⟨R,1,none⟩ (.int .i64 ((i:Int)+1)));have hwn:yU R A l.length c d (i+1) w2 W2:=by rw[ab];exact jf (m:=0) D.bN
   have O:=Hd (D.Et IB hwn.2.1 hwn.1);clear hwn;have ar:=dL dB;have HN:=Hd (QH R A c (i+1) d l W2 O.bN (HP.only O.only) (by omega) hk);go_wp2_with fail;rw[←ab];go_wp2_with fail;refine HN.mono ?_;rintro e w9 ⟨rfl,m9,mE⟩;refine(show _∧_ from⟨rfl,?_⟩);refine IK _ _ ?_;rw[bE,mE];exact⟨rfl,O.only.drewN m9⟩
 have o8:=dB;have b8:ah l i 4 [45]=false:=by simpa using o8
 replace dB:ah l i 4 [45]=false:=b8;clear b8;have I:=D.box.1;have J:=D.box.2.1;have hI:=ag w1 4 ⟨#[45]⟩ D;rw[show ah l i 4 (bs ⟨#[45]⟩)=false from dB]at hI;have Y:=Hd hI;clear hI;go_wp2_with fail;refine Y.mono ?_;rintro e w2 ⟨rfl,m,wQ⟩;have O:Hid (nu R A c d l i rb rs wb w2):=by show nu _ _ _ _ _ _ _ _ _ _;rw[wQ];exact D.drewN m
 clear D Y wQ I J;rename Hid (nu _ _ _ _ _ _ _ _ _ _)=>D
 by_cases gY:ah l i 3 yh=true
 ·have e:bM l (if d=256 then none else some T) i=(.ok (jv 1) (i+1)):=by
   unfold bM;rw[iN o8,iP gY]
  replace bE:Hid (F=PQ R A c d l i (.ok (jv 1) (i+1)) wb):=by show _=_;rw[bE,HX,e]
  replace kI:Hid (F0=PQ R A c d l i (.ok (jv 1) (i+1)) w):=by show _=_;rw[kI,HX,e]
  clear HX e;have I:=D.box.1;have J:=D.box.2.1;have hI:=ag w2 3 ⟨#[116,114,117,101]⟩ D;rw[show ah l i 3 (bs ⟨#[116,114,117,101]⟩)=true from gY]at hI;have Y:=Hd hI;clear hI;go_wp2_with fail;refine Y.mono ?_;rintro e w3 ⟨rfl,m,wQ⟩;have O:Hid (nu R A c d l i rb rs wb w3):=by show nu _ _ _ _ _ _ _ _ _ _;rw[wQ];exact D.drewN m
  clear D Y wQ I J;rename Hid (nu _ _ _ _ _ _ _ _ _ _)=>D;obtain⟨t,ht,ax,bi⟩:=jh gY
  rcases HP.toks with h0|⟨b,off,rfl,hb,hc⟩
  ·rw[h0]at ht;simp at ht
  have ao:b≠R:=HP.apart _ rfl;have I:=D.box.1;have J:=D.box.2.1;have ar:=(gE.1 ht).1;obtain⟨n,hn⟩:=aj l.length;have c0:=D.bN.c0;have c1:=D.bN.c1;rw[←hn]at c0;have ai:=D.bN.lt;have ay:=HP.cap;have aw:=HP.bU;unfold maxLen at aw;rw[←hn]at ay;have a6:(0:Int)≤(i:Int):=by omega
  have ba:(i:Int)<(n:Int):=by omega
  have bn:i<n:=by omega
  have CB:n≤100000:=by omega
  have bm:b<w3.heap.size:=lL hb D.only.size;have Tg:R≠b:=fun h=>ao h.symm
  have G:∀j,j<4→w3.cell? ⟨b,off+i*4+j,none⟩=some (fZ t j):=fun j hj=>by
   rw[D.only.cell hb ao];exact hc i t ht j hj
  have x2:=G 2 (by omega);simp only[fZ]at x2;rw[bi]at x2;have b7:w3.cell? ⟨b,off+i*4+2,none⟩=some (.string ⟨#[116,114,117,101]⟩):=x2;have hs:((⟨#[116,114,117,101]⟩:ByteArray).toList==(⟨#[116,114,117,101]⟩:ByteArray).toList)=true:=by simp only[ByteArray.toList_eq];decide
  clear x2 G hc ht bi ax hn;go_wp2_with fail
  go_quiet (fail)
  obtain⟨bt,ae⟩:=aj w3.heap.size;obtain⟨W4,av⟩:=aj ((w3.alloc (.cells #[.int .i64 2,.int .i64 0,.string ⟨#[]⟩,.slice none 0 0] 64)).drewN nq);have uX:Hid (Only (fun q=>q=R) w3 W4):=by show Only _ _ _;rw[av];exact(Ob ((Br _ _).alloc (lr _) _)).drewN nq
  have BS:Hid (W4.heap[bt]?=some (.cells #[.int .i64 2,.int .i64 0,.string ⟨#[]⟩,.slice none 0 0] 64 (0,0))):=by show _=_;rw[av,ae];exact eu w3 _
  have bf:iZ W4 R (some ⟨b,off,none⟩) l.length c i d:=by rw[av];exact(D.bN.below ((Br _ _).alloc (lr _) _) ai).drewN nq
  have yX:=Hd (D.Et IB uX bf);have MO:=D.big;have XF:bt≠R:=by omega
  have cL:bt≠rs:=by omega
  have cM:bt≠rb:=by omega
  have cI:bt<W4.heap.size:=lH BS;rw[←av,←ae];have cj:Hid (w3.heap.size≤bt):=by show _≤_;omega
  clear bf av ae I J c0 c1 b7 hs;have b4:=yX.box.1;have a7:=yX.box.2.1;have c4:=yX.bN.c1;have f4:=yX.bN.frozen 1;have cN:=yX.bN.lt;obtain⟨y0,y1,y2,y3,pq⟩:=q4 BS;obtain⟨v0,v1,v2,v3,zq⟩:=q4 yX.res;have cU:=yX.big;go_wp2_with fail;have bu:Hid (Only (fun q=>q=R) w3 (W4.setCell ⟨bt,1,none⟩ (.int .i64 1))):=dU uX cj _;have bv:Hid (iZ (W4.setCell ⟨bt,1,none⟩ (.int .i64 1)) R (some ⟨b,off,none⟩) l.length c i d):=(iw W4 ⟨bt,1,none⟩ R _ (fun e=>XF e.symm)).trans yX.bN;have hwn:=jf (m:=0) bv;have aF:=Hd (D.Et IB (bu.trans hwn.2.1) hwn.1);have wR:=Hd aF.res;clear v0 v1 v2 v3 zq y0 y1 y2 y3 pq;refine bR (Gg (ni wR)) rfl ?_;refine IK _ _ ?_;rw[bE,BI];rw[BI]at aF;exact oq (t:=jv 1) (A':=none) (c':=0) _ _ _ _ (by omega) (by omega) fC aF.bN aF.only (aD.leaf (by show 0≤_;exact zl _))
 have vG:=gY;have cb:ah l i 3 yh=false:=by simpa using vG
 replace gY:ah l i 3 [116,114,117,101]=false:=cb;clear cb;have I:=D.box.1;have J:=D.box.2.1;have hI:=ag w2 3 ⟨#[116,114,117,101]⟩ D;rw[show ah l i 3 (bs ⟨#[116,114,117,101]⟩)=false from gY]at hI;have Y:=Hd hI;clear hI;go_wp2_with fail;refine Y.mono ?_;rintro e w3 ⟨rfl,m,wQ⟩;have O:Hid (nu R A c d l i rb rs wb w3):=by show nu _ _ _ _ _ _ _ _ _ _;rw[wQ];exact D.drewN m
 clear D Y wQ I J;rename Hid (nu _ _ _ _ _ _ _ _ _ _)=>D
 by_cases fJ:ah l i 3 rD=true
 ·have e:bM l (if d=256 then none else some T) i=(.ok (jv 0) (i+1)):=by
   unfold bM;rw[iN o8,iN vG,iP fJ]
  replace bE:Hid (F=PQ R A c d l i (.ok (jv 0) (i+1)) wb):=by show _=_;rw[bE,HX,e]
  replace kI:Hid (F0=PQ R A c d l i (.ok (jv 0) (i+1)) w):=by show _=_;rw[kI,HX,e]
  clear HX e;have I:=D.box.1;have J:=D.box.2.1;have hI:=ag w3 3 ⟨#[102,97,108,115,101]⟩ D;rw[show ah l i 3 (bs ⟨#[102,97,108,115,101]⟩)=true from fJ]at hI;have Y:=Hd hI;clear hI;go_wp2_with fail;refine Y.mono ?_;rintro e w4 ⟨rfl,m,wQ⟩;have O:Hid (nu R A c d l i rb rs wb w4):=by show nu _ _ _ _ _ _ _ _ _ _;rw[wQ];exact D.drewN m
  clear D Y wQ I J;rename Hid (nu _ _ _ _ _ _ _ _ _ _)=>D;obtain⟨t,ht,ax,bi⟩:=jh fJ
  rcases HP.toks with h0|⟨b,off,rfl,hb,hc⟩
  ·rw[h0]at ht;simp at ht
  have ao:b≠R:=HP.apart _ rfl;have I:=D.box.1;have J:=D.box.2.1;have ar:=(gE.1 ht).1;obtain⟨n,hn⟩:=aj l.length;have c0:=D.bN.c0;have c1:=D.bN.c1;rw[←hn]at c0;have ai:=D.bN.lt;have ay:=HP.cap;have aw:=HP.bU;unfold maxLen at aw;rw[←hn]at ay;have a6:(0:Int)≤(i:Int):=by omega
  have ba:(i:Int)<(n:Int):=by omega
  have bn:i<n:=by omega
  have CB:n≤100000:=by omega
  have bm:b<w4.heap.size:=lL hb D.only.size;have Tg:R≠b:=fun h=>ao h.symm
  have G:∀j,j<4→w4.cell? ⟨b,off+i*4+j,none⟩=some (fZ t j):=fun j hj=>by
   rw[D.only.cell hb ao];exact hc i t ht j hj
  have x2:=G 2 (by omega);simp only[fZ]at x2;rw[bi]at x2;have b7:w4.cell? ⟨b,off+i*4+2,none⟩=some (.string ⟨#[102,97,108,115,101]⟩):=x2;have hs:((⟨#[102,97,108,115,101]⟩:ByteArray).toList==(⟨#[116,114,117,101]⟩:ByteArray).toList)=false:=by simp only[ByteArray.toList_eq];decide
  clear x2 G hc ht bi ax hn;go_wp2_with fail
  go_quiet (fail)
  obtain⟨bt,ae⟩:=aj w4.heap.size;obtain⟨W4,av⟩:=aj ((w4.alloc (.cells #[.int .i64 2,.int .i64 0,.string ⟨#[]⟩,.slice none 0 0] 64)).drewN nq);have uX:Hid (Only (fun q=>q=R) w4 W4):=by show Only _ _ _;rw[av];exact(Ob ((Br _ _).alloc (lr _) _)).drewN nq
  have BS:Hid (W4.heap[bt]?=some (.cells #[.int .i64 2,.int .i64 0,.string ⟨#[]⟩,.slice none 0 0] 64 (0,0))):=by show _=_;rw[av,ae];exact eu w4 _
  have bf:iZ W4 R (some ⟨b,off,none⟩) l.length c i d:=by rw[av];exact(D.bN.below ((Br _ _).alloc (lr _) _) ai).drewN nq
  have yX:=Hd (D.Et IB uX bf);have MO:=D.big;have XF:bt≠R:=by omega
  have cL:bt≠rs:=by omega
  have cM:bt≠rb:=by omega
  have cI:bt<W4.heap.size:=lH BS;rw[←av,←ae];have cj:Hid (w4.heap.size≤bt):=by show _≤_;omega
  clear bf av ae I J c0 c1 b7 hs;have b4:=yX.box.1;have a7:=yX.box.2.1;have c4:=yX.bN.c1;have f4:=yX.bN.frozen 1;have cN:=yX.bN.lt;obtain⟨y0,y1,y2,y3,pq⟩:=q4 BS;obtain⟨v0,v1,v2,v3,zq⟩:=q4 yX.res;have cU:=yX.big;go_wp2_with fail;have bu:Hid (Only (fun q=>q=R) w4 W4):=uX;have bv:Hid (iZ W4 R (some ⟨b,off,none⟩) l.length c i d):=yX.bN;have hwn:=jf (m:=0) bv;have aF:=Hd (D.Et IB (bu.trans hwn.2.1) hwn.1);have wR:=Hd aF.res;clear v0 v1 v2 v3 zq y0 y1 y2 y3 pq;refine bR (Gg (ni wR)) rfl ?_;refine IK _ _ ?_;rw[bE,BI];rw[BI]at aF;exact oq (t:=jv 0) (A':=none) (c':=0) _ _ _ _ (by omega) (by omega) fC aF.bN aF.only (aD.leaf (by show 0≤_;exact zl _))
 have rP:=fJ;have b9:ah l i 3 rD=false:=by simpa using rP
 replace fJ:ah l i 3 [102,97,108,115,101]=false:=b9;clear b9;have I:=D.box.1;have J:=D.box.2.1;have hI:=ag w3 3 ⟨#[102,97,108,115,101]⟩ D;rw[show ah l i 3 (bs ⟨#[102,97,108,115,101]⟩)=false from fJ]at hI;have Y:=Hd hI;clear hI;go_wp2_with fail;refine Y.mono ?_;rintro e w4 ⟨rfl,m,wQ⟩;have O:Hid (nu R A c d l i rb rs wb w4):=by show nu _ _ _ _ _ _ _ _ _ _;rw[wQ];exact D.drewN m
 clear D Y wQ I J;rename Hid (nu _ _ _ _ _ _ _ _ _ _)=>D
 by_cases eT:ah l i 3 fE=true
 ·by_cases af:ah l (i+1) 4 [40]=true
  ·by_cases hk:jd l (i+2) 2=true
   ·obtain⟨t,ht,ax⟩:=wh hk
    by_cases aa:ah l (i+3) 4 [41]=true
    ·have e:bM l (if d=256 then none else some T) i=(.ok (iH 4 t.text) (i+1+1+1+1)):=by
      unfold bM;rw[iN o8,iN vG,iN rP,iP eT,iP af,iP hk,iP aa,DW ht]
     replace bE:Hid (F=PQ R A c d l i (.ok (iH 4 t.text) (i+1+1+1+1)) wb):=by show _=_;rw[bE,HX,e]
     replace kI:Hid (F0=PQ R A c d l i (.ok (iH 4 t.text) (i+1+1+1+1)) w):=by show _=_;rw[kI,HX,e]
     clear HX e hk;have hk:=ax;clear ax;replace ht:l[i+1+1]?=some t:=ht;replace aa:ah l (i+1+1+1) 4 [41]=true:=aa;have I:=D.box.1;have J:=D.box.2.1;have hI:=ag w4 3 ⟨#[110,101,120,116]⟩ D;rw[show ah l i 3 (bs ⟨#[110,101,120,116]⟩)=true from eT]at hI;have Y:=Hd hI;clear hI;go_wp2_with fail;refine Y.mono ?_;rintro e w5 ⟨rfl,m,wQ⟩;have O:Hid (nu R A c d l i rb rs wb w5):=by show nu _ _ _ _ _ _ _ _ _ _;rw[wQ];exact D.drewN m
     clear D Y wQ I J;rename Hid (nu _ _ _ _ _ _ _ _ _ _)=>D;have I:=D.box.1;have J:=D.box.2.1;have c1:=D.bN.c1;have f1:=D.bN.frozen 1;have ai:=D.bN.lt;obtain⟨W2,ab⟩:=ak (w5.setCell ⟨R,1,none⟩ (.int .i64 ((i:Int)+1)));have hwn:yU R A l.length c d (i+1) w5 W2:=by rw[ab];exact jf (m:=0) D.bN
     have O:=Hd (D.Et IB hwn.2.1 hwn.1);clear hwn;have ar:=dL eT;have b2:=O.box.1;have aJ:=O.box.2.1;have HM:=Hd (vZ R A c (i+1) d l 4 ⟨#[40]⟩ W2 O.bN (HP.only O.only) (by omega) af);have cc:=dL af;clear af;go_wp2_with fail;rw[←ab];go_wp2_with fail;refine HM.mono ?_;rintro e w6 ⟨rfl,fB⟩;have FC:=Hd (O.Et IB fB.2.1 fB.1);have b3:=FC.box.1;have aP:=FC.box.2.1;clear D O HM fB I J c1 f1 b2 aJ ab ai;have xR:=Hd (IL R A c (i+1+1) d l t w6 FC.bN (HP.only FC.only) ht hk);have cJ:=(gE.1 ht).1;have CF:=Hd (HP.txt t (mG ht));obtain⟨nm,az⟩:∃nm:ByteArray,nm=⟨t.text.toArray⟩:=⟨_,rfl⟩;rw[←az]at xR;have XG:=Hd az;clear ht hk az;go_wp2_with fail;refine xR.mono ?_;rintro e w7 ⟨rfl,fB⟩;have yX:=Hd (FC.Et IB fB.2.1 fB.1);clear fB FC xR b3 aP;obtain⟨bt,ae⟩:=aj w7.heap.size;obtain⟨W8,XH⟩:=aj (w7.alloc (.cells #[.int .i64 4,.int .i64 0,.string nm,.slice none 0 0] 64));have aQ:=jZ XH ae;have MP:=yX.bN.lt;have MO:=yX.big;have yF:Hid (nu R A c d l (i+1+1+1) rb rs wb W8):=by show nu _ _ _ _ _ _ _ _ _ _;rw[XH];exact yX.Et IB (Ob ((Br _ _).alloc (lr _) _)) (yX.bN.below ((Br _ _).alloc (lr _) _) MP)
     have XF:bt≠R:=by omega
     have bk:bt<W8.heap.size:=lH aQ;have b4:=yX.box.1;have a7:=yX.box.2.1;have b5:=yF.box.1;have aE:=yF.box.2.1;have HM:=Hd (vZ R A c (i+1+1+1) d l 4 ⟨#[41]⟩ W8 yF.bN (HP.only yF.only) (by omega) aa);have cV:=dL aa;have bd:=Hd XH;have oW:=Hd ae;clear aa XH ae MP MO yX;go_wp2_with fail;rw[←bd,←oW];(try go_wp2_with fail);refine HM.mono ?_;rintro e w9 ⟨rfl,fB⟩;have bb:=Hd (yF.Et IB fB.2.1 fB.1);have VT:=Hd ((fB.2.1.block bt bk XF).trans aQ);obtain⟨y0,y1,y2,y3,pq⟩:=q4 VT;obtain⟨v0,v1,v2,v3,zq⟩:=q4 bb.res;clear fB yF HM b4 a7 b5 aE;rename Hid (nu _ _ _ _ _ _ _ _ _ _)=>D;go_wp2_with fail;have wR:=Hd D.res;clear v0 v1 v2 v3 zq y0 y1 y2 y3 pq;refine bR (Gg (ni wR)) rfl ?_;refine IK _ _ ?_;rw[bE,BI,XG];rw[BI]at D;exact oq (t:=iH 4 t.text) (A':=none) (c':=0) _ _ _ _ (by omega) (by omega) fC D.bN D.only (aD.leaf (by have:=CF.out;show t.text.toArray.size≤_;unfold maxLen;simp;omega))
    ·have bh:ah l (i+1+1+1) 4 [41]=false:=by simpa using aa
     have e:bM l (if d=256 then none else some T) i=(.bad (i+1+1+1) 16):=by
      unfold bM;rw[iN o8,iN vG,iN rP,iP eT,iP af,iP hk,iN aa]
     replace bE:Hid (F=PQ R A c d l i (.bad (i+1+1+1) 16) wb):=by show _=_;rw[bE,HX,e]
     replace kI:Hid (F0=PQ R A c d l i (.bad (i+1+1+1) 16) w):=by show _=_;rw[kI,HX,e]
     clear HX e hk aa;have hk:=ax;have aa:=bh;clear ax bh;replace ht:l[i+1+1]?=some t:=ht;have I:=D.box.1;have J:=D.box.2.1;have hI:=ag w4 3 ⟨#[110,101,120,116]⟩ D;rw[show ah l i 3 (bs ⟨#[110,101,120,116]⟩)=true from eT]at hI;have Y:=Hd hI;clear hI;go_wp2_with fail;refine Y.mono ?_;rintro e w5 ⟨rfl,m,wQ⟩;have O:Hid (nu R A c d l i rb rs wb w5):=by show nu _ _ _ _ _ _ _ _ _ _;rw[wQ];exact D.drewN m
     clear D Y wQ I J;rename Hid (nu _ _ _ _ _ _ _ _ _ _)=>D;have I:=D.box.1;have J:=D.box.2.1;have c1:=D.bN.c1;have f1:=D.bN.frozen 1;have ai:=D.bN.lt;obtain⟨W2,ab⟩:=ak (w5.setCell ⟨R,1,none⟩ (.int .i64 ((i:Int)+1)));have hwn:yU R A l.length c d (i+1) w5 W2:=by rw[ab];exact jf (m:=0) D.bN
     have O:=Hd (D.Et IB hwn.2.1 hwn.1);clear hwn;have ar:=dL eT;have b2:=O.box.1;have aJ:=O.box.2.1;have HM:=Hd (vZ R A c (i+1) d l 4 ⟨#[40]⟩ W2 O.bN (HP.only O.only) (by omega) af);have cc:=dL af;clear af;go_wp2_with fail;rw[←ab];go_wp2_with fail;refine HM.mono ?_;rintro e w6 ⟨rfl,fB⟩;have FC:=Hd (O.Et IB fB.2.1 fB.1);have b3:=FC.box.1;have aP:=FC.box.2.1;clear D O HM fB I J c1 f1 b2 aJ ab ai;have xR:=Hd (IL R A c (i+1+1) d l t w6 FC.bN (HP.only FC.only) ht hk);have cJ:=(gE.1 ht).1;have CF:=Hd (HP.txt t (mG ht));obtain⟨nm,az⟩:∃nm:ByteArray,nm=⟨t.text.toArray⟩:=⟨_,rfl⟩;rw[←az]at xR;have XG:=Hd az;clear ht hk az;go_wp2_with fail;refine xR.mono ?_;rintro e w7 ⟨rfl,fB⟩;have yX:=Hd (FC.Et IB fB.2.1 fB.1);clear fB FC xR b3 aP;obtain⟨bt,ae⟩:=aj w7.heap.size;obtain⟨W8,XH⟩:=aj (w7.alloc (.cells #[.int .i64 4,.int .i64 0,.string nm,.slice none 0 0] 64));have aQ:=jZ XH ae;have MP:=yX.bN.lt;have MO:=yX.big;have yF:Hid (nu R A c d l (i+1+1+1) rb rs wb W8):=by show nu _ _ _ _ _ _ _ _ _ _;rw[XH];exact yX.Et IB (Ob ((Br _ _).alloc (lr _) _)) (yX.bN.below ((Br _ _).alloc (lr _) _) MP)
     have XF:bt≠R:=by omega
     have bk:bt<W8.heap.size:=lH aQ;have b4:=yX.box.1;have a7:=yX.box.2.1;have b5:=yF.box.1;have aE:=yF.box.2.1;have HM:=Hd (Gv R A c (i+1+1+1) d l 4 ⟨#[41]⟩ W8 yF.bN (HP.only yF.only) (by omega) aa);have bd:=Hd XH;have oW:=Hd ae;clear aa XH ae MP MO yX;go_wp2_with fail;rw[←bd,←oW];(try go_wp2_with fail);refine HM.mono ?_;rintro e w9 ⟨rfl,m9,mE⟩;refine(show _∧_ from⟨rfl,?_⟩);refine IK _ _ ?_;rw[bE,mE];exact⟨rfl,yF.only.drewN m9⟩
   ·have a6:jd l (i+1+1) 2=false:=by simpa using hk
    have e:bM l (if d=256 then none else some T) i=(.bad (i+1+1) 16):=by
     unfold bM;rw[iN o8,iN vG,iN rP,iP eT,iP af,iN hk]
    replace bE:Hid (F=PQ R A c d l i (.bad (i+1+1) 16) wb):=by show _=_;rw[bE,HX,e]
    replace kI:Hid (F0=PQ R A c d l i (.bad (i+1+1) 16) w):=by show _=_;rw[kI,HX,e]
    clear HX e hk;have hk:=a6;clear a6;have I:=D.box.1;have J:=D.box.2.1;have hI:=ag w4 3 ⟨#[110,101,120,116]⟩ D;rw[show ah l i 3 (bs ⟨#[110,101,120,116]⟩)=true from eT]at hI;have Y:=Hd hI;clear hI;go_wp2_with fail;refine Y.mono ?_;rintro e w5 ⟨rfl,m,wQ⟩;have O:Hid (nu R A c d l i rb rs wb w5):=by show nu _ _ _ _ _ _ _ _ _ _;rw[wQ];exact D.drewN m
    clear D Y wQ I J;rename Hid (nu _ _ _ _ _ _ _ _ _ _)=>D;have I:=D.box.1;have J:=D.box.2.1;have c1:=D.bN.c1;have f1:=D.bN.frozen 1;have ai:=D.bN.lt;obtain⟨W2,ab⟩:=ak (w5.setCell ⟨R,1,none⟩ (.int .i64 ((i:Int)+1)));have hwn:yU R A l.length c d (i+1) w5 W2:=by rw[ab];exact jf (m:=0) D.bN
    have O:=Hd (D.Et IB hwn.2.1 hwn.1);clear hwn;have ar:=dL eT;have b2:=O.box.1;have aJ:=O.box.2.1;have HM:=Hd (vZ R A c (i+1) d l 4 ⟨#[40]⟩ W2 O.bN (HP.only O.only) (by omega) af);have cc:=dL af;clear af;go_wp2_with fail;rw[←ab];go_wp2_with fail;refine HM.mono ?_;rintro e w6 ⟨rfl,fB⟩;have FC:=Hd (O.Et IB fB.2.1 fB.1);have b3:=FC.box.1;have aP:=FC.box.2.1;clear D O HM fB I J c1 f1 b2 aJ ab ai;have xR:=Hd (ac9 R A c (i+1+1) d l w6 FC.bN (HP.only FC.only) (by omega) hk);go_wp2_with fail;refine xR.mono ?_;rintro e w9 ⟨rfl,m9,mE⟩;refine(show _∧_ from⟨rfl,?_⟩);refine IK _ _ ?_;rw[bE,mE];exact⟨rfl,FC.only.drewN m9⟩
  ·have ck:ah l (i+1) 4 [40]=false:=by simpa using af
   have e:bM l (if d=256 then none else some T) i=(.bad (i+1) 16):=by
    unfold bM;rw[iN o8,iN vG,iN rP,iP eT,iN af]
   replace bE:Hid (F=PQ R A c d l i (.bad (i+1) 16) wb):=by show _=_;rw[bE,HX,e]
   replace kI:Hid (F0=PQ R A c d l i (.bad (i+1) 16) w):=by show _=_;rw[kI,HX,e]
   clear HX e af;have af:=ck;clear ck;have I:=D.box.1;have J:=D.box.2.1;have hI:=ag w4 3 ⟨#[110,101,120,116]⟩ D;rw[show ah l i 3 (bs ⟨#[110,101,120,116]⟩)=true from eT]at hI;have Y:=Hd hI;clear hI;go_wp2_with fail;refine Y.mono ?_;rintro e w5 ⟨rfl,m,wQ⟩;have O:Hid (nu R A c d l i rb rs wb w5):=by show nu _ _ _ _ _ _ _ _ _ _;rw[wQ];exact D.drewN m
   clear D Y wQ I J;rename Hid (nu _ _ _ _ _ _ _ _ _ _)=>D;have I:=D.box.1;have J:=D.box.2.1;have c1:=D.bN.c1;have f1:=D.bN.frozen 1;have ai:=D.bN.lt;obtain⟨W2,ab⟩:=ak (w5.setCell ⟨R,1,none⟩ (.int .i64 ((i:Int)+1)));have hwn:yU R A l.length c d (i+1) w5 W2:=by rw[ab];exact jf (m:=0) D.bN
   have O:=Hd (D.Et IB hwn.2.1 hwn.1);clear hwn;have ar:=dL eT;have b2:=O.box.1;have aJ:=O.box.2.1;have HM:=Hd (Gv R A c (i+1) d l 4 ⟨#[40]⟩ W2 O.bN (HP.only O.only) (by omega) af);clear af;go_wp2_with fail;rw[←ab];go_wp2_with fail;refine HM.mono ?_;rintro e w9 ⟨rfl,m9,mE⟩;refine(show _∧_ from⟨rfl,?_⟩);refine IK _ _ ?_;rw[bE,mE];exact⟨rfl,O.only.drewN m9⟩
 have FD:=eT;have cd:ah l i 3 fE=false:=by simpa using FD
 replace eT:ah l i 3 [110,101,120,116]=false:=cd;clear cd;have I:=D.box.1;have J:=D.box.2.1;have hI:=ag w4 3 ⟨#[110,101,120,116]⟩ D;rw[show ah l i 3 (bs ⟨#[110,101,120,116]⟩)=false from eT]at hI;have Y:=Hd hI;clear hI;go_wp2_with fail;refine Y.mono ?_;rintro e w5 ⟨rfl,m,wQ⟩;have O:Hid (nu R A c d l i rb rs wb w5):=by show nu _ _ _ _ _ _ _ _ _ _;rw[wQ];exact D.drewN m
 clear D Y wQ I J;rename Hid (nu _ _ _ _ _ _ _ _ _ _)=>D
 by_cases nI:ah l i 4 [40]=true
 ·have e:bM l (if d=256 then none else some T) i=((if d=256 then .bad i 17 else T (i+1)).then fun t j=>if ah l j 4 [41]then .ok t (j+1)else .bad j 16):=by
   unfold bM;rw[iN o8,iN vG,iN rP,iN FD,iP nI]
   by_cases h:d=256
   ·simp only[h,if_true];rfl
   ·simp only[h,if_false];rfl
  replace bE:Hid (F=PQ R A c d l i ((if d=256 then .bad i 17 else T (i+1)).then fun t j=>if ah l j 4 [41]then .ok t (j+1)else .bad j 16) wb):=by show _=_;rw[bE,HX,e]
  replace kI:Hid (F0=PQ R A c d l i ((if d=256 then .bad i 17 else T (i+1)).then fun t j=>if ah l j 4 [41]then .ok t (j+1)else .bad j 16) w):=by show _=_;rw[kI,HX,e]
  clear HX e;have I:=D.box.1;have J:=D.box.2.1;have hI:=ag w5 4 ⟨#[40]⟩ D;rw[show ah l i 4 (bs ⟨#[40]⟩)=true from nI]at hI;have Y:=Hd hI;clear hI;go_wp2_with fail;refine Y.mono ?_;rintro e w6 ⟨rfl,m,wQ⟩;have O:Hid (nu R A c d l i rb rs wb w6):=by show nu _ _ _ _ _ _ _ _ _ _;rw[wQ];exact D.drewN m
  clear D Y wQ I J;rename Hid (nu _ _ _ _ _ _ _ _ _ _)=>D;have I:=D.box.1;have J:=D.box.2.1;have ar:=dL nI;have aS:Hid (Calls Tryz.prog 174 #[.pointer (some ⟨R,0,none⟩),.func (.func 122) #[.pointer (some ⟨R,0,none⟩)] #[]] w6 (PQ R A c d l i (if d=256 then .bad i 17 else T (i+1)) w6)):=Cu R A c d l 122 (.pointer (some ⟨R,0,none⟩)) true (fun _=>True) T i w6 (fun _ _=>by kernel_rfl) (fun _ _ _ _=>trivial) hT hd ar D.bN (HP.only D.only) trivial;obtain⟨r,hr⟩:=aj ((if d=256 then .bad i 17 else T (i+1)));have dJ:Hid (F=PQ R A c d l i (r.then fun t j=>if ah l j 4 [41]then .ok t (j+1)else .bad j 16) wb):=by show _=_;rw[bE,hr]
  rw[←hr]at aS;clear hr hT bE;go_wp2_with fail;refine aS.mono ?_;intro e w4 hq
  rcases r with⟨jb,xb⟩|⟨t,j⟩
  ·obtain⟨rfl,iC⟩:=hq;refine(show _∧_ from⟨rfl,?_⟩);refine IK _ _ ?_;rw[dJ];exact⟨rfl,D.only.trans iC⟩
  obtain⟨⟨A',c',rfl,hV⟩,cw,cx,vD,iC⟩:=hq;have yX:=Hd (D.Et IB iC vD);have du:=D.only.size;obtain⟨n2,bW⟩:=aj t.kids.length;unfold Tm.val;rw[←bW];have de:=D.big;have cs:aD (fun q=>wb.heap.size<q) w4 A' c' t:=hV.keep Kr (fun q _ h=>by have:=BI.out;omega);clear D I J aS hV iC;obtain⟨bt,ae⟩:=aj w4.heap.size;obtain⟨W8,XH⟩:=aj (w4.alloc (.cells #[.int .i64 t.op,.int .i64 t.num,.string t.name,.slice A' n2 c'] 64));have aQ:=jZ XH ae;have MP:=yX.bN.lt;have MO:=yX.big;have yF:Hid (nu R A c d l j rb rs wb W8):=by show nu _ _ _ _ _ _ _ _ _ _;rw[XH];exact yX.Et IB (Ob ((Br _ _).alloc (lr _) _)) (yX.bN.below ((Br _ _).alloc (lr _) _) MP)
  have cC:Hid (aD (fun q=>wb.heap.size<q) W8 A' c' t):=by show aD _ _ _ _ _;rw[XH];exact cs.keep (Kb ((Br _ _).alloc (lr _) _)) (fun _ _ h=>h)
  have XF:bt≠R:=by omega
  have bk:bt<W8.heap.size:=lH aQ;have b4:=yX.box.1;have a7:=yX.box.2.1;have b5:=yF.box.1;have aE:=yF.box.2.1;have bd:=Hd XH;have oW:=Hd ae;have kU:=Hd bW;have df:R<wb.heap.size:=fC;clear XH ae MP MO cs bW vD;go_wp2_with fail;rw[←bd,←oW]
  by_cases aa:ah l j 4 [41]=true
  ·have HM:=Hd (vZ R A c j d l 4 ⟨#[41]⟩ W8 yF.bN (HP.only yF.only) (by omega) aa);have cV:=dL aa;have pR:Hid (F=PQ R A c d l i (.ok t (j+1)) wb):=by show _=_;rw[dJ];show PQ R A c d l i (if ah l j 4 [41]=true then _ else _) wb=_;rw[iP aa]
   clear aa dJ;(try go_wp2_with fail);refine HM.mono ?_;rintro e w9 ⟨rfl,fB⟩;have bb:=Hd (yF.Et IB fB.2.1 fB.1);have cE:Hid (aD (fun q=>wb.heap.size<q) w9 A' c' t):=cC.keep (aR.cO fB.2.1 (by omega)) (fun _ _ h=>h);have VT:=Hd ((fB.2.1.block bt bk XF).trans aQ);obtain⟨y0,y1,y2,y3,pq⟩:=q4 VT;obtain⟨v0,v1,v2,v3,zq⟩:=q4 bb.res;clear fB yX yF HM b4 a7 b5 aE;rename Hid (nu _ _ _ _ _ _ _ _ _ _)=>D;go_wp2_with fail;have wR:=Hd D.res;clear v0 v1 v2 v3 zq y0 y1 y2 y3 pq;refine bR (Gg (ni wR)) rfl ?_;refine IK _ _ ?_;rw[pR,BI];rw[BI]at D;have h:=oq (.int .i64 t.op) (.int .i64 t.num) (.string t.name) (.slice A' n2 c') (show i<j+1 by omega) (show j+1≤l.length by omega) fC D.bN D.only cE;unfold Tm.val at h;rw[←kU]at h;exact h
  ·have cv:ah l j 4 [41]=false:=by simpa using aa
   have HM:=Hd (Gv R A c j d l 4 ⟨#[41]⟩ W8 yF.bN (HP.only yF.only) (by omega) cv);have pR:Hid (F=PQ R A c d l i (.bad j 16) wb):=by show _=_;rw[dJ];show PQ R A c d l i (if ah l j 4 [41]=true then _ else _) wb=_;rw[iN aa]
   clear aa cv dJ;(try go_wp2_with fail);refine HM.mono ?_;rintro e w9 ⟨rfl,m9,mE⟩;refine(show _∧_ from⟨rfl,?_⟩);refine IK _ _ ?_;rw[pR,mE];exact⟨rfl,yF.only.drewN m9⟩
 have Je:=nI;have cf:ah l i 4 [40]=false:=by simpa using Je
 replace nI:ah l i 4 [40]=false:=cf;clear cf;have I:=D.box.1;have J:=D.box.2.1;have hI:=ag w5 4 ⟨#[40]⟩ D;rw[show ah l i 4 (bs ⟨#[40]⟩)=false from nI]at hI;have Y:=Hd hI;clear hI;go_wp2_with fail;refine Y.mono ?_;rintro e w6 ⟨rfl,m,wQ⟩;have O:Hid (nu R A c d l i rb rs wb w6):=by show nu _ _ _ _ _ _ _ _ _ _;rw[wQ];exact D.drewN m
 clear D Y wQ I J;rename Hid (nu _ _ _ _ _ _ _ _ _ _)=>D
 by_cases Jf:ah l i 3 wIf=true
 ·have e:bM l (if d=256 then none else some T) i=(if d=256 then .bad i 17 else Xe l T (i+1)):=by
   unfold bM;rw[iN o8,iN vG,iN rP,iN FD,iN Je,iP Jf]
   by_cases h:d=256
   ·simp only[h,if_true];rfl
   ·simp only[h,if_false];rfl
  replace bE:Hid (F=PQ R A c d l i (if d=256 then .bad i 17 else Xe l T (i+1)) wb):=by show _=_;rw[bE,HX,e]
  replace kI:Hid (F0=PQ R A c d l i (if d=256 then .bad i 17 else Xe l T (i+1)) w):=by show _=_;rw[kI,HX,e]
  clear HX e;have I:=D.box.1;have J:=D.box.2.1;have hI:=ag w6 3 ⟨#[105,102]⟩ D;rw[show ah l i 3 (bs ⟨#[105,102]⟩)=true from Jf]at hI;have Y:=Hd hI;clear hI;go_wp2_with fail;refine Y.mono ?_;rintro e w7 ⟨rfl,m,wQ⟩;have O:Hid (nu R A c d l i rb rs wb w7):=by show nu _ _ _ _ _ _ _ _ _ _;rw[wQ];exact D.drewN m
  clear D Y wQ I J;rename Hid (nu _ _ _ _ _ _ _ _ _ _)=>D;have I:=D.box.1;have J:=D.box.2.1;have ar:=dL Jf;have cW:=D.bN.lt;have di:=D.big;obtain⟨tb,br⟩:=aj w7.heap.size;obtain⟨W3,a8⟩:=aj (w7.alloc (.cells #[.int .i64 18,.int .i64 0,.string ⟨#[]⟩,.slice none 0 0] 64));have cr:Only (fun q=>q=R) w7 W3:=by rw[a8];exact Ob ((Br _ _).alloc (lr _) _)
  have cn:=jZ a8 br;have cp:iZ W3 R A l.length c i d:=by rw[a8];exact D.bN.below ((Br _ _).alloc (lr _) _) cW
  have FC:=Hd (D.Et IB cr cp);have dj:=D.only.size;have dk:R<w.heap.size:=Og
  have aS:Hid (Calls Tryz.prog 174 #[.pointer (some ⟨R,0,none⟩),.func (.func 210) #[] #[.pointer (some ⟨tb,0,none⟩),.pointer (some ⟨rb,0,none⟩)]] W3 (Oi R A c d l i tb (if d=256 then .bad i 17 else Xe l T (i+1)) w W3 W3.heap.size)):=
   Rf R A c d l tb rb w W3 i T hT Og (by have:=VW.out;have:=ci.out;omega) (by have:=VW.out;omega) (lH cn) (by have:=VW.out;omega) hd ar FC.bN cA (cz.trans FC.only) FC.box cn
  obtain⟨r,hr⟩:=aj ((if d=256 then .bad i 17 else Xe l T (i+1)));rw[←hr]at aS;have dJ:Hid (F=PQ R A c d l i r wb):=by show _=_;rw[bE,hr]
  have cP:Hid (F0=PQ R A c d l i r w):=by show _=_;rw[kI,hr]
  have b3:=FC.box.1;have aP:=FC.box.2.1;have dl:tb≠R:=by omega
  have cQ:tb≠rs:=by omega
  have cS:tb≠rb:=by omega
  have dm:wb.heap.size<tb:=by have:=BI.out;omega
  have dn:W3.heap.size=tb+1:=by rw[a8,br];simp
  have cG:=Hd a8;have cX:=Hd br;have bL:=I;clear hr hT bE kI a8 br cr cp;go_wp2_with fail;rw[←cG,←cX];(try go_wp2_with fail);refine aS.mono ?_;intro e w4 hq
  rcases r with⟨jb,xb⟩|⟨t,j⟩
  ·obtain⟨rfl,iC⟩:=hq;refine(show _∧_ from⟨rfl,?_⟩);rw[cP];exact⟨rfl,iC⟩
  obtain⟨⟨A',c',rfl,XE,hV⟩,cw,cx,vD,cH,iC⟩:=hq;have uX:Hid (Only (fun q=>q=R) wb w4):=FC.only.ako iC (by omega);have yX:Hid (nu R A c d l j rb rs wb w4):=⟨vD,⟨(World.cell?_of_block (a:=⟨rb,0,none⟩) (iC.block rb aP (fun h=>h.elim cg (fun h=>cS h.symm)))).trans b3,lL aP iC.size,cg⟩,(iC.block rs FC.big (fun h=>h.elim IB (fun h=>cQ h.symm))).trans FC.res,uX,lL FC.big iC.size⟩;have cB:Hid (aD (fun q=>wb.heap.size<q) w4 A' c' t):=hV.keep Kr (fun q _ h=>by omega);obtain⟨n2,kU⟩:=ak t.kids.length;unfold Tm.val;rw[←kU]at XE⊢;have c9:=Hd XE;obtain⟨y0,y1,y2,y3,pq⟩:=q4 XE;obtain⟨v0,v1,v2,v3,zq⟩:=q4 yX.res;clear D FC hV vD cH iC XE I J b3 aP aS bL;rename Hid (nu _ _ _ _ _ _ _ _ _ _)=>D;go_wp2_with fail;have wR:=Hd D.res;clear v0 v1 v2 v3 zq y0 y1 y2 y3 pq;refine bR (Gg (ni wR)) rfl ?_;refine IK _ _ ?_;rw[dJ,BI];rw[BI]at D;have h:=oq (.int .i64 t.op) (.int .i64 t.num) (.string t.name) (.slice A' n2 c') cw cx fC D.bN D.only cB;unfold Tm.val at h;rw[←kU]at h;exact h
 have bg:=Jf;have cq:ah l i 3 wIf=false:=by simpa using bg
 replace Jf:ah l i 3 [105,102]=false:=cq;clear cq;have I:=D.box.1;have J:=D.box.2.1;have hI:=ag w6 3 ⟨#[105,102]⟩ D;rw[show ah l i 3 (bs ⟨#[105,102]⟩)=false from Jf]at hI;have Y:=Hd hI;clear hI;go_wp2_with fail;refine Y.mono ?_;rintro e w7 ⟨rfl,m,wQ⟩;have O:Hid (nu R A c d l i rb rs wb w7):=by show nu _ _ _ _ _ _ _ _ _ _;rw[wQ];exact D.drewN m
 clear D Y wQ I J;rename Hid (nu _ _ _ _ _ _ _ _ _ _)=>D
 by_cases h7:jd l i 2=true
 ·obtain⟨t,ht,hk⟩:=wh h7
  have e:bM l (if d=256 then none else some T) i=(.ok (iH 3 t.text) (i+1)):=by
   unfold bM;rw[iN o8,iN vG,iN rP,iN FD,iN Je,iN bg,iP h7,DW ht]
  replace bE:Hid (F=PQ R A c d l i (.ok (iH 3 t.text) (i+1)) wb):=by show _=_;rw[bE,HX,e]
  replace kI:Hid (F0=PQ R A c d l i (.ok (iH 3 t.text) (i+1)) w):=by show _=_;rw[kI,HX,e]
  clear HX e h7
  rcases HP.toks with h0|⟨b,off,rfl,hb,hc⟩
  ·rw[h0]at ht;simp at ht
  have ao:b≠R:=HP.apart _ rfl;have I:=D.box.1;have J:=D.box.2.1;have ar:=(gE.1 ht).1;obtain⟨n,hn⟩:=aj l.length;have c0:=D.bN.c0;have c1:=D.bN.c1;rw[←hn]at c0;have ai:=D.bN.lt;have ay:=HP.cap;have aw:=HP.bU;unfold maxLen at aw;rw[←hn]at ay;have a6:(0:Int)≤(i:Int):=by omega
  have ba:(i:Int)<(n:Int):=by omega
  have bn:i<n:=by omega
  have CB:n≤100000:=by omega
  have bm:b<w7.heap.size:=lL hb D.only.size;have Tg:R≠b:=fun h=>ao h.symm
  have G:∀j,j<4→w7.cell? ⟨b,off+i*4+j,none⟩=some (fZ t j):=fun j hj=>by
   rw[D.only.cell hb ao];exact hc i t ht j hj
  have x0:=G 0 (by omega);simp only[fZ,Nat.add_zero]at x0;rw[hk]at x0;have xR:=Hd (fun m=>IL R (some ⟨b,off,none⟩) c i d l t (w7.drewN m) (D.drewN m).bN (HP.only (D.drewN m).only) ht hk);have CF:=Hd (HP.txt t (mG ht));obtain⟨nm,az⟩:∃nm:ByteArray,nm=⟨t.text.toArray⟩:=⟨_,rfl⟩;rw[←az]at xR;have XG:=Hd az;clear G hc ht hk hn az;go_wp2_with fail
  go_quiet (fail)
  obtain⟨W5,Es⟩:=aj (w7.drewN nq);have yF:Hid (nu R (some ⟨b,off,none⟩) c d l i rb rs wb W5):=by show nu _ _ _ _ _ _ _ _ _ _;rw[Es];exact D.drewN nq
  have XI:=xR nq;rw[←Es]at XI⊢;have Rh:=Hd XI;clear xR XI D Es I J x0 c0 c1;have b5:=yF.box.1;have aE:=yF.box.2.1;go_wp2_with fail;refine Rh.mono ?_;rintro e w9 ⟨rfl,fB⟩;have bb:=Hd (yF.Et IB fB.2.1 fB.1);clear yF fB Rh b5 aE;rename Hid (nu _ _ _ _ _ _ _ _ _ _)=>D;have cY:=D.big;obtain⟨v0,v1,v2,v3,zq⟩:=q4 D.res;go_wp2_with fail;have wR:=Hd D.res;clear v0 v1 v2 v3 zq;refine bR (Gg (ni wR)) rfl ?_;refine IK _ _ ?_;rw[bE,BI,XG];rw[BI]at D;exact oq (t:=iH 3 t.text) (A':=none) (c':=0) _ _ _ _ (by omega) (by omega) fC D.bN D.only (aD.leaf (by have:=CF.out;show t.text.toArray.size≤_;unfold maxLen;simp;omega))
 by_cases h8:jd l i 1=true
 ·obtain⟨t,ht,hk⟩:=wh h8
  have e:bM l (if d=256 then none else some T) i=(.ok (j6 t.n) (i+1)):=by
   unfold bM;rw[iN o8,iN vG,iN rP,iN FD,iN Je,iN bg,iN h7,iP h8,G8 ht]
  replace bE:Hid (F=PQ R A c d l i (.ok (j6 t.n) (i+1)) wb):=by show _=_;rw[bE,HX,e]
  replace kI:Hid (F0=PQ R A c d l i (.ok (j6 t.n) (i+1)) w):=by show _=_;rw[kI,HX,e]
  clear HX e h7 h8
  rcases HP.toks with h0|⟨b,off,rfl,hb,hc⟩
  ·rw[h0]at ht;simp at ht
  have ao:b≠R:=HP.apart _ rfl;have I:=D.box.1;have J:=D.box.2.1;have ar:=(gE.1 ht).1;obtain⟨n,hn⟩:=aj l.length;have c0:=D.bN.c0;have c1:=D.bN.c1;rw[←hn]at c0;have ai:=D.bN.lt;have ay:=HP.cap;have aw:=HP.bU;unfold maxLen at aw;rw[←hn]at ay;have a6:(0:Int)≤(i:Int):=by omega
  have ba:(i:Int)<(n:Int):=by omega
  have bn:i<n:=by omega
  have CB:n≤100000:=by omega
  have bm:b<w7.heap.size:=lL hb D.only.size;have Tg:R≠b:=fun h=>ao h.symm
  have G:∀j,j<4→w7.cell? ⟨b,off+i*4+j,none⟩=some (fZ t j):=fun j hj=>by
   rw[D.only.cell hb ao];exact hc i t ht j hj
  have x0:=G 0 (by omega);simp only[fZ,Nat.add_zero]at x0;rw[hk]at x0;have xR:=Hd (fun m=>Ti R (some ⟨b,off,none⟩) c i d l t (w7.drewN m) (D.drewN m).bN (HP.only (D.drewN m).only) ht hk);obtain⟨nm,XG⟩:=ak t.n;rw[←XG]at xR;clear G hc ht hk hn;go_wp2_with fail
  go_quiet (fail)
  obtain⟨W5,Es⟩:=aj (w7.drewN nq);have yF:Hid (nu R (some ⟨b,off,none⟩) c d l i rb rs wb W5):=by show nu _ _ _ _ _ _ _ _ _ _;rw[Es];exact D.drewN nq
  have XI:=xR nq;rw[←Es]at XI⊢;have Rh:=Hd XI;clear xR XI D Es I J x0 c0 c1;have b5:=yF.box.1;have aE:=yF.box.2.1;go_wp2_with fail;refine Rh.mono ?_;rintro e w9 ⟨rfl,fB⟩;have bb:=Hd (yF.Et IB fB.2.1 fB.1);clear yF fB Rh b5 aE;rename Hid (nu _ _ _ _ _ _ _ _ _ _)=>D;have cY:=D.big;obtain⟨v0,v1,v2,v3,zq⟩:=q4 D.res;go_wp2_with fail;have wR:=Hd D.res;clear v0 v1 v2 v3 zq;refine bR (Gg (ni wR)) rfl ?_;refine IK _ _ ?_;rw[bE,BI,XG];rw[BI]at D;exact oq (t:=j6 t.n) (A':=none) (c':=0) _ _ _ _ (by omega) (by omega) fC D.bN D.only (aD.leaf (by show 0≤_;exact zl _))
 have XJ:jd l i 1=false:=by simpa using h8
 have g7:jd l i 2=false:=by simpa using h7
 rcases DJ g7 with c6|⟨t,ht,bP⟩
 ·have e:bM l (if d=256 then none else some T) i=(.bad i 16):=by
   unfold bM;rw[iN o8,iN vG,iN rP,iN FD,iN Je,iN bg,iN h7,iN h8]
  replace bE:Hid (F=PQ R A c d l i (.bad i 16) wb):=by show _=_;rw[bE,HX,e]
  replace kI:Hid (F0=PQ R A c d l i (.bad i 16) w):=by show _=_;rw[kI,HX,e]
  clear HX e h7 h8 g7;have c0:=D.bN.c0;have c1:=D.bN.c1;obtain⟨n,hn⟩:=aj l.length;rw[←hn]at c0;have ai:=D.bN.lt;have ba:¬(i:Int)<(n:Int):=by omega
  have hd:decide ((i:Int)<(n:Int))=false:=dF ba;have dr:decide (i<n)=false:=dF (by omega);have ay:=HP.cap;have aw:=HP.bU;unfold maxLen at aw;rw[←hn]at ay;have CB:n≤100000:=by omega
  have xO:=Hd XJ;clear hn XJ c6;have I:=D.box.1;have J:=D.box.2.1;go_wp2_with fail
  go_quiet (fail)
  obtain⟨W5,Es⟩:=aj (w7.drewN nq);have yF:Hid (nu R A c d l i rb rs wb W5):=by show nu _ _ _ _ _ _ _ _ _ _;rw[Es];exact D.drewN nq
  rw[←Es];have Rh:=Hd (QH R A c i d l W5 yF.bN (HP.only yF.only) (by omega) xO);clear D Es I J c0 c1;have b5:=yF.box.1;have aE:=yF.box.2.1;go_wp2_with fail;refine Rh.mono ?_;rintro e w9 ⟨rfl,m9,mE⟩;refine(show _∧_ from⟨rfl,?_⟩);refine IK _ _ ?_;rw[bE,mE];exact⟨rfl,yF.only.drewN m9⟩
 ·have e:bM l (if d=256 then none else some T) i=(.bad i 16):=by
   unfold bM;rw[iN o8,iN vG,iN rP,iN FD,iN Je,iN bg,iN h7,iN h8]
  replace bE:Hid (F=PQ R A c d l i (.bad i 16) wb):=by show _=_;rw[bE,HX,e]
  replace kI:Hid (F0=PQ R A c d l i (.bad i 16) w):=by show _=_;rw[kI,HX,e]
  clear HX e h7 h8 g7
  rcases HP.toks with h0|⟨b,off,rfl,hb,hc⟩
  ·rw[h0]at ht;simp at ht
  have ao:b≠R:=HP.apart _ rfl;have I:=D.box.1;have J:=D.box.2.1;have ar:=(gE.1 ht).1;obtain⟨n,hn⟩:=aj l.length;have c0:=D.bN.c0;have c1:=D.bN.c1;rw[←hn]at c0;have ai:=D.bN.lt;have ay:=HP.cap;have aw:=HP.bU;unfold maxLen at aw;rw[←hn]at ay;have a6:(0:Int)≤(i:Int):=by omega
  have ba:(i:Int)<(n:Int):=by omega
  have bn:i<n:=by omega
  have CB:n≤100000:=by omega
  have bm:b<w7.heap.size:=lL hb D.only.size;have Tg:R≠b:=fun h=>ao h.symm
  have G:∀j,j<4→w7.cell? ⟨b,off+i*4+j,none⟩=some (fZ t j):=fun j hj=>by
   rw[D.only.cell hb ao];exact hc i t ht j hj
  have x0:=G 0 (by omega);simp only[fZ,Nat.add_zero]at x0;have dt:(t.kind==2)=false:=by simpa using bP
  have c7:(t.kind != 2)=true:=by simpa using bP
  have xO:=Hd XJ;clear G hc ht bP hn XJ;go_wp2_with fail
  go_quiet (fail)
  obtain⟨W5,Es⟩:=aj (w7.drewN nq);have yF:Hid (nu R (some ⟨b,off,none⟩) c d l i rb rs wb W5):=by show nu _ _ _ _ _ _ _ _ _ _;rw[Es];exact D.drewN nq
  rw[←Es];have Rh:=Hd (QH R (some ⟨b,off,none⟩) c i d l W5 yF.bN (HP.only yF.only) (by omega) xO);clear D Es I J c0 c1 x0;have b5:=yF.box.1;have aE:=yF.box.2.1;go_wp2_with fail;refine Rh.mono ?_;rintro e w9 ⟨rfl,m9,mE⟩;refine(show _∧_ from⟨rfl,?_⟩);refine IK _ _ ?_;rw[bE,mE];exact⟨rfl,yF.only.drewN m9⟩
structure ahE(R:Nat)(A:Option Addr)(c d:Nat)(l:List Tok)(v:p8):Prop where
 term:KR R A c d l 122 (.pointer (some ⟨R,0,none⟩)) (fun _=>True) v.term
 imp:KR R A c d l 145 (.pointer (some ⟨R,0,none⟩)) (fun _=>True) v.imp
 not:KR R A c d l 173 (.pointer (some ⟨R,0,none⟩)) (fun _=>True) v.not
theorem Px(R:Nat)(A:Option Addr)(c d:Nat)(l:List Tok)(s:Option p8)(v:p8)(hd:d≤256)(hs:s=if d=256 then none else some v)(hv:d<256→ahE R A c (d+1) l v):ahE R A c d l (QB l s):=by
 have ht:s.map p8.term=if d=256 then none else some v.term:=by rw[hs];split<;>rfl
 have hi:s.map p8.imp=if d=256 then none else some v.imp:=by rw[hs];split<;>rfl
 have hn:s.map p8.not=if d=256 then none else some v.not:=by rw[hs];split<;>rfl
 have G:=abP R A c d l v.term hd (fun h=>(hv h).term);rw[←ht]at G;have I:=adB R A c d l _ G;have D:=adE R A c d l _ v.not hd I (fun h=>(hv h).not);rw[←hn]at D;have himp:=adC R A c d l _ v.imp hd D (fun h=>(hv h).imp);rw[←hi]at himp;exact⟨abM R A c d l _ himp,himp,D⟩
theorem aaT(R:Nat)(A:Option Addr)(c:Nat)(l:List Tok):∀r d,d+r=256→ahE R A c d l (lvl l r)
 |0,d,h=>by
  rw[lvl];exact Px R A c d l none (lvl l 0) (by omega) (by rw[iP (by omega)]) (fun h=>by omega)
 |r+1,d,h=>by
  rw[lvl];exact Px R A c d l (some (lvl l r)) (lvl l r) (by omega) (by rw[iN (by omega)]) (fun _=>aaT R A c l r (d+1) (by omega))
end Go.Proofs.YtkhoeoilamddaaaGreatDoor
