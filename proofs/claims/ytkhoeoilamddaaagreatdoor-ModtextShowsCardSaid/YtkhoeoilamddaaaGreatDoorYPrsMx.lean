/- Walk: ttext's reader.unit. -/
import Derived.Test.YtkhoeoilamddaaaGreatDoorYPrsL
namespace Go.Proofs.YtkhoeoilamddaaaGreatDoor
open Go.RowKit
set_option linter.unusedVariables false
structure nu(R:Nat)(A:Option Addr)(c d:Nat)(l:List Tok)(i rb rs:Nat)(wb wr:World):Prop where
 bN:iZ wr R A l.length c i d
 box:vV R rb wr
 res:wr.heap[rs]?=some (.cells #[.int .i64 0,.int .i64 0,.string ⟨#[]⟩,.slice none 0 0] 64 (0,0))
 only:Only (fun q=>q=R) wb wr
 big:rs<wr.heap.size
theorem nu.drewN{R c d i rb rs:Nat}{A:Option Addr}{l:List Tok}{wb wr:World}(h:nu R A c d l i rb rs wb wr)(m:Nat):nu R A c d l i rb rs wb (wr.drewN m):=⟨h.bN.drewN m,⟨h.box.1,h.box.2.1,h.box.2.2⟩,h.res,h.only.drewN m,h.big⟩
theorem nu.Et{R c d i j rb rs:Nat}{A:Option Addr}{l:List Tok}{wb wr w':World}(h:nu R A c d l i rb rs wb wr)(IB:rs≠R)(ho:Only (fun q=>q=R) wr w')(hr:iZ w' R A l.length c j d):nu R A c d l j rb rs wb w':=⟨hr,h.box.only ho,(ho.block rs h.big IB).trans h.res,h.only.trans ho,lL h.big ho.size⟩
theorem jh{l:List Tok}{i:Nat}{k:Int}{s:Bs}(h:ah l i k s=true):∃t,l[i]?=some t∧t.kind=k∧t.text=s:=by
 unfold ah at h
 cases ht:l[i]? with
 |none=>rw[ht]at h;cases h
 |some t=>rw[ht]at h;simp at h;exact⟨t,rfl,h.1,h.2⟩
theorem Only.ako{R tb:Nat}{w w1 w2:World}(h:Only (fun q=>q=R) w w1)(k:Only (fun q=>q=R∨q=tb) w1 w2)(ht:w.heap.size≤tb):Only (fun q=>q=R) w w2:=
 ⟨k.os.trans h.os,k.tape.trans h.tape,k.output.trans h.output,Nat.le_trans h.size k.size,fun q hq hf=>(k.block q (lL hq h.size) (fun e=>e.elim hf (fun e=>by omega))).trans (h.block q hq hf)⟩
set_option maxRecDepth 100000
set_option maxHeartbeats 64000000
theorem G8{l:List Tok}{i:Nat}{t:Tok}(h:l[i]?=some t):rC l i=t.n:=by unfold rC;rw[h]
theorem DW{l:List Tok}{i:Nat}{t:Tok}(h:l[i]?=some t):pJ l i=t.text:=by unfold pJ;rw[h]
theorem abP(R:Nat)(A:Option Addr)(c d:Nat)(l:List Tok)(T:jN)(hd:d≤256)(hT:d<256→KR R A c (d+1) l 122 (.pointer (some ⟨R,0,none⟩)) (fun _=>True) T) :
 KR R A c d l 204 (.pointer (some ⟨R,0,none⟩)) (fun _=>True) (bM l (if d=256 then none else some T)):=by
 intro i w hi hR hP _;obtain⟨X,HX⟩:=ak (bM l (if d=256 then none else some T) i);rw[←HX];have hlen:=hP.len;have Og:=hR.lt;obtain⟨wb,hwb⟩:=aj (w.alloc (.cells #[.pointer (some ⟨R,0,none⟩)] 182));have hbb:=dz hwb;have hsb:wb.heap.size=w.heap.size+1:=by rw[hwb];simp
 have hob:Only (fun q=>q=R) w wb:=Ob hbb;have hRb:iZ wb R A l.length c i d:=hR.below hbb Og;have hPb:=hP.only hob;obtain⟨rb,hrb⟩:=aj w.heap.size;obtain⟨rs,hrs⟩:=aj wb.heap.size;have G5:vV R rb wb:=⟨by rw[hwb,hrb];exact(cR _ _ 0 _ _ (0,0) (eu w _)).trans rfl,by omega,by omega⟩;obtain⟨w1,hw1⟩:=aj (wb.alloc (.cells #[.int .i64 0,.int .i64 0,.string ⟨#[]⟩,.slice none 0 0] 64));have hb1:=dz hw1;have hs1:w1.heap.size=rs+1:=by rw[hw1,hrs];simp
 have hbx:w1.heap[rs]?=some (.cells #[.int .i64 0,.int .i64 0,.string ⟨#[]⟩,.slice none 0 0] 64 (0,0)):=by rw[hw1,hrs];exact eu wb _
 have ho1:Only (fun q=>q=R) wb w1:=Ob hb1;have HU:=Hd (show nu R A c d l i rb rs wb w1 from⟨hRb.below hb1 hRb.lt,G5.only ho1,hbx,ho1,by omega⟩);have IB:rs≠R:=by omega
 have ahA:rb≠R:=by omega
 have alI:rb≠rs:=by omega
 have fC:R<wb.heap.size:=by omega
 have ajd:rs=w.heap.size+1:=by omega
 obtain⟨F0,Uk⟩:=aj (PQ R A c d l i X w);obtain⟨F,vU⟩:=aj (PQ R A c d l i X wb);have IK:Hid (∀e w',F e w'→F0 e w'):=fun e w' h=>by rw[vU]at h;rw[Uk];exact h.back hob
 rw[←Uk];have HIS:=Hd (fun(W:World)(k:Int)(s:ByteArray)(h:nu R A c d l i rb rs wb W)=>DI R A c i d l k s W h.bN (hPb.only h.only) (by omega));have HP:=Hd hPb;have bE:=Hd vU;have kI:=Hd Uk;have HPW:=Hd hP;have HOB:=Hd hob;have jy:=Hd hwb;have BI:=Hd hrs;have aje:=Hd ajd;have VW:=Hd hrb;have p9:=Hd hsb;have HW1:=Hd hw1;clear Uk vU hwb hbb hsb hob hRb hPb hrb hrs ajd G5 hw1 hb1 hs1 hbx ho1 hP hR;go_in;go_wp2_with fail;rw[←jy,←HW1,←aje,←VW]
 by_cases dB:ah l i 4 [45]=true
 ·by_cases hk:jd l (i+1) 1=true
  ·obtain⟨t,ht,hkd⟩:=wh hk
   have e:bM l (if d=256 then none else some T) i=(.ok (j6 (-t.n)) (i+1+1)):=by
    unfold bM;rw[iP dB,iP hk,G8 ht]
   replace bE:Hid (F=PQ R A c d l i (.ok (j6 (-t.n)) (i+1+1)) wb):=by show _=_;rw[bE,HX,e]
   replace kI:Hid (F0=PQ R A c d l i (.ok (j6 (-t.n)) (i+1+1)) w):=by show _=_;rw[kI,HX,e]
   clear HX e hk;have hk:=hkd;clear hkd;have b0:=HU.box.1;have bl:=HU.box.2.1;have hI:=HIS w1 4 ⟨#[45]⟩ HU;rw[show ah l i 4 (bs ⟨#[45]⟩)=true from dB]at hI;have HI:=Hd hI;clear hI;go_wp2_with fail;refine HI.mono ?_;rintro e w2 ⟨rfl,m,wQ⟩;have uJ:Hid (nu R A c d l i rb rs wb w2):=by show nu _ _ _ _ _ _ _ _ _ _;rw[wQ];exact HU.drewN m
   clear HU HI wQ b0 bl;rename Hid (nu _ _ _ _ _ _ _ _ _ _)=>HU;have b0:=HU.box.1;have bl:=HU.box.2.1;have c1:=HU.bN.c1;have f1:=HU.bN.frozen 1;have hRl:=HU.bN.lt;obtain⟨W2,hW2⟩:=aj (w2.setCell ⟨R,1,none⟩ (.int .i64 ((i:Int)+1)));have hwn:yU R A l.length c d (i+1) w2 W2:=by rw[hW2];exact jf (m:=0) HU.bN
   have uJ:=Hd (HU.Et IB hwn.2.1 hwn.1);have b2:=uJ.box.1;have bl2:=uJ.box.2.1;have ahD:=HP.rng t (mG ht);have HN:=Hd (Ti R A c (i+1) d l t W2 uJ.bN (HP.only uJ.only) ht hk);have hneg:IntKind.i64.wrap (-t.n)=-t.n:=IntWalk.i64_in _ (by omega);have hil:=(gE.1 ht).1;obtain⟨nn,Iy⟩:=ak t.n;rw[←Iy]at hneg;have HW2:=Hd hW2;clear hW2 hwn ahD ht hk;go_wp2_with fail;rw[←HW2];go_wp2_with fail;refine HN.mono ?_;rintro e w9 ⟨rfl,fB⟩;rw[←Iy];have FC:=Hd (uJ.Et IB fB.2.1 fB.1);clear HU uJ fB c1 f1 b0 bl b2 bl2 HN;rename Hid (nu _ _ _ _ _ _ _ _ _ _)=>HU;obtain⟨v0,v1,v2,v3,zq⟩:=q4 HU.res;have hbg:=HU.big;go_wp2_with fail;have wR:=Hd HU.res;clear v0 v1 v2 v3 zq;refine bR (Gg (ni wR)) rfl ?_;refine IK _ _ ?_;rw[bE,BI,←Iy];exact oq (t:=j6 (-nn)) (A':=none) (c':=0) _ _ _ _ (by omega) (by omega) fC HU.bN HU.only (aD.leaf (by show 0≤_;exact zl _))
  ·replace hk:jd l (i+1) 1=false:=by simpa using hk
   have e:bM l (if d=256 then none else some T) i=(.bad (i+1) 16):=by
    unfold bM;rw[iP dB,iN (by rw[hk];decide)]
   replace bE:Hid (F=PQ R A c d l i (.bad (i+1) 16) wb):=by show _=_;rw[bE,HX,e]
   replace kI:Hid (F0=PQ R A c d l i (.bad (i+1) 16) w):=by show _=_;rw[kI,HX,e]
   clear HX e;have b0:=HU.box.1;have bl:=HU.box.2.1;have hI:=HIS w1 4 ⟨#[45]⟩ HU;rw[show ah l i 4 (bs ⟨#[45]⟩)=true from dB]at hI;have HI:=Hd hI;clear hI;go_wp2_with fail;refine HI.mono ?_;rintro e w2 ⟨rfl,m,wQ⟩;have uJ:Hid (nu R A c d l i rb rs wb w2):=by show nu _ _ _ _ _ _ _ _ _ _;rw[wQ];exact HU.drewN m
   clear HU HI wQ b0 bl;rename Hid (nu _ _ _ _ _ _ _ _ _ _)=>HU;have b0:=HU.box.1;have bl:=HU.box.2.1;have c1:=HU.bN.c1;have f1:=HU.bN.frozen 1;have hRl:=HU.bN.lt;obtain⟨W2,HW2⟩:=ak (w2.setCell ⟨R,1,none⟩ (.int .i64 ((i:Int)+1)));have hwn:yU R A l.length c d (i+1) w2 W2:=by rw[HW2];exact jf (m:=0) HU.bN
   have uJ:=Hd (HU.Et IB hwn.2.1 hwn.1);clear hwn;have hil:=dL dB;have HN:=Hd (QH R A c (i+1) d l W2 uJ.bN (HP.only uJ.only) (by omega) hk);go_wp2_with fail;rw[←HW2];go_wp2_with fail;refine HN.mono ?_;rintro e w9 ⟨rfl,m9,mE⟩;refine(show _∧_ from⟨rfl,?_⟩);refine IK _ _ ?_;rw[bE,mE];exact⟨rfl,uJ.only.drewN m9⟩
 have o8:=dB;have aaR:ah l i 4 [45]=false:=by simpa using o8
 replace dB:ah l i 4 [45]=false:=aaR;clear aaR;have b0:=HU.box.1;have bl:=HU.box.2.1;have hI:=HIS w1 4 ⟨#[45]⟩ HU;rw[show ah l i 4 (bs ⟨#[45]⟩)=false from dB]at hI;have HI:=Hd hI;clear hI;go_wp2_with fail;refine HI.mono ?_;rintro e w2 ⟨rfl,m,wQ⟩;have uJ:Hid (nu R A c d l i rb rs wb w2):=by show nu _ _ _ _ _ _ _ _ _ _;rw[wQ];exact HU.drewN m
 clear HU HI wQ b0 bl;rename Hid (nu _ _ _ _ _ _ _ _ _ _)=>HU
 by_cases gY:ah l i 3 yh=true
 ·have e:bM l (if d=256 then none else some T) i=(.ok (jv 1) (i+1)):=by
   unfold bM;rw[iN o8,iP gY]
  replace bE:Hid (F=PQ R A c d l i (.ok (jv 1) (i+1)) wb):=by show _=_;rw[bE,HX,e]
  replace kI:Hid (F0=PQ R A c d l i (.ok (jv 1) (i+1)) w):=by show _=_;rw[kI,HX,e]
  clear HX e;have b0:=HU.box.1;have bl:=HU.box.2.1;have hI:=HIS w2 3 ⟨#[116,114,117,101]⟩ HU;rw[show ah l i 3 (bs ⟨#[116,114,117,101]⟩)=true from gY]at hI;have HI:=Hd hI;clear hI;go_wp2_with fail;refine HI.mono ?_;rintro e w3 ⟨rfl,m,wQ⟩;have uJ:Hid (nu R A c d l i rb rs wb w3):=by show nu _ _ _ _ _ _ _ _ _ _;rw[wQ];exact HU.drewN m
  clear HU HI wQ b0 bl;rename Hid (nu _ _ _ _ _ _ _ _ _ _)=>HU;obtain⟨t,ht,hkd,htx⟩:=jh gY
  rcases HP.toks with h0|⟨b,off,rfl,hb,hc⟩
  ·rw[h0]at ht;simp at ht
  have hbR:b≠R:=HP.apart _ rfl;have b0:=HU.box.1;have bl:=HU.box.2.1;have hil:=(gE.1 ht).1;obtain⟨n,hn⟩:=aj l.length;have c0:=HU.bN.c0;have c1:=HU.bN.c1;rw[←hn]at c0;have hRl:=HU.bN.lt;have hlc:=HP.cap;have hcm:=HP.bU;unfold maxLen at hcm;rw[←hn]at hlc;have hk0:(0:Int)≤(i:Int):=by omega
  have hk1:(i:Int)<(n:Int):=by omega
  have hin:i<n:=by omega
  have CB:n≤100000:=by omega
  have hbw:b<w3.heap.size:=lL hb HU.only.size;have Tg:R≠b:=fun h=>hbR h.symm
  have hcell:∀j,j<4→w3.cell? ⟨b,off+i*4+j,none⟩=some (fZ t j):=fun j hj=>by
   rw[HU.only.cell hb hbR];exact hc i t ht j hj
  have x2:=hcell 2 (by omega);simp only[fZ]at x2;rw[htx]at x2;have x2':w3.cell? ⟨b,off+i*4+2,none⟩=some (.string ⟨#[116,114,117,101]⟩):=x2;have hs:((⟨#[116,114,117,101]⟩:ByteArray).toList==(⟨#[116,114,117,101]⟩:ByteArray).toList)=true:=by simp only[ByteArray.toList_eq];decide
  clear x2 hcell hc ht htx hkd hn;go_wp2_with fail
  go_quiet (fail)
  obtain⟨bt,hbt⟩:=aj w3.heap.size;obtain⟨W4,hW4⟩:=aj ((w3.alloc (.cells #[.int .i64 2,.int .i64 0,.string ⟨#[]⟩,.slice none 0 0] 64)).drewN nq);have uX:Hid (Only (fun q=>q=R) w3 W4):=by show Only _ _ _;rw[hW4];exact(Ob ((Br _ _).alloc (lr _) _)).drewN nq
  have BS:Hid (W4.heap[bt]?=some (.cells #[.int .i64 2,.int .i64 0,.string ⟨#[]⟩,.slice none 0 0] 64 (0,0))):=by show _=_;rw[hW4,hbt];exact eu w3 _
  have adK:iZ W4 R (some ⟨b,off,none⟩) l.length c i d:=by rw[hW4];exact(HU.bN.below ((Br _ _).alloc (lr _) _) hRl).drewN nq
  have yX:=Hd (HU.Et IB uX adK);have MO:=HU.big;have XF:bt≠R:=by omega
  have ajf:bt≠rs:=by omega
  have ajg:bt≠rb:=by omega
  have af7:bt<W4.heap.size:=lH BS;rw[←hW4,←hbt];have ajh:Hid (w3.heap.size≤bt):=by show _≤_;omega
  clear adK hW4 hbt b0 bl c0 c1 x2' hs;have b4:=yX.box.1;have bl4:=yX.box.2.1;have c4:=yX.bN.c1;have f4:=yX.bN.frozen 1;have aji:=yX.bN.lt;obtain⟨y0,y1,y2,y3,pq⟩:=q4 BS;obtain⟨v0,v1,v2,v3,zq⟩:=q4 yX.res;have akp:=yX.big;go_wp2_with fail;have HOX:Hid (Only (fun q=>q=R) w3 (W4.setCell ⟨bt,1,none⟩ (.int .i64 1))):=dU uX ajh _;have HRX:Hid (iZ (W4.setCell ⟨bt,1,none⟩ (.int .i64 1)) R (some ⟨b,off,none⟩) l.length c i d):=(iw W4 ⟨bt,1,none⟩ R _ (fun e=>XF e.symm)).trans yX.bN;have hwn:=jf (m:=0) HRX;have HUX:=Hd (HU.Et IB (HOX.trans hwn.2.1) hwn.1);have wR:=Hd HUX.res;clear v0 v1 v2 v3 zq y0 y1 y2 y3 pq;refine bR (Gg (ni wR)) rfl ?_;refine IK _ _ ?_;rw[bE,BI];rw[BI]at HUX;exact oq (t:=jv 1) (A':=none) (c':=0) _ _ _ _ (by omega) (by omega) fC HUX.bN HUX.only (aD.leaf (by show 0≤_;exact zl _))
 have vG:=gY;have adL:ah l i 3 yh=false:=by simpa using vG
 replace gY:ah l i 3 [116,114,117,101]=false:=adL;clear adL;have b0:=HU.box.1;have bl:=HU.box.2.1;have hI:=HIS w2 3 ⟨#[116,114,117,101]⟩ HU;rw[show ah l i 3 (bs ⟨#[116,114,117,101]⟩)=false from gY]at hI;have HI:=Hd hI;clear hI;go_wp2_with fail;refine HI.mono ?_;rintro e w3 ⟨rfl,m,wQ⟩;have uJ:Hid (nu R A c d l i rb rs wb w3):=by show nu _ _ _ _ _ _ _ _ _ _;rw[wQ];exact HU.drewN m
 clear HU HI wQ b0 bl;rename Hid (nu _ _ _ _ _ _ _ _ _ _)=>HU
 by_cases fJ:ah l i 3 rD=true
 ·have e:bM l (if d=256 then none else some T) i=(.ok (jv 0) (i+1)):=by
   unfold bM;rw[iN o8,iN vG,iP fJ]
  replace bE:Hid (F=PQ R A c d l i (.ok (jv 0) (i+1)) wb):=by show _=_;rw[bE,HX,e]
  replace kI:Hid (F0=PQ R A c d l i (.ok (jv 0) (i+1)) w):=by show _=_;rw[kI,HX,e]
  clear HX e;have b0:=HU.box.1;have bl:=HU.box.2.1;have hI:=HIS w3 3 ⟨#[102,97,108,115,101]⟩ HU;rw[show ah l i 3 (bs ⟨#[102,97,108,115,101]⟩)=true from fJ]at hI;have HI:=Hd hI;clear hI;go_wp2_with fail;refine HI.mono ?_;rintro e w4 ⟨rfl,m,wQ⟩;have uJ:Hid (nu R A c d l i rb rs wb w4):=by show nu _ _ _ _ _ _ _ _ _ _;rw[wQ];exact HU.drewN m
  clear HU HI wQ b0 bl;rename Hid (nu _ _ _ _ _ _ _ _ _ _)=>HU;obtain⟨t,ht,hkd,htx⟩:=jh fJ
  rcases HP.toks with h0|⟨b,off,rfl,hb,hc⟩
  ·rw[h0]at ht;simp at ht
  have hbR:b≠R:=HP.apart _ rfl;have b0:=HU.box.1;have bl:=HU.box.2.1;have hil:=(gE.1 ht).1;obtain⟨n,hn⟩:=aj l.length;have c0:=HU.bN.c0;have c1:=HU.bN.c1;rw[←hn]at c0;have hRl:=HU.bN.lt;have hlc:=HP.cap;have hcm:=HP.bU;unfold maxLen at hcm;rw[←hn]at hlc;have hk0:(0:Int)≤(i:Int):=by omega
  have hk1:(i:Int)<(n:Int):=by omega
  have hin:i<n:=by omega
  have CB:n≤100000:=by omega
  have hbw:b<w4.heap.size:=lL hb HU.only.size;have Tg:R≠b:=fun h=>hbR h.symm
  have hcell:∀j,j<4→w4.cell? ⟨b,off+i*4+j,none⟩=some (fZ t j):=fun j hj=>by
   rw[HU.only.cell hb hbR];exact hc i t ht j hj
  have x2:=hcell 2 (by omega);simp only[fZ]at x2;rw[htx]at x2;have x2':w4.cell? ⟨b,off+i*4+2,none⟩=some (.string ⟨#[102,97,108,115,101]⟩):=x2;have hs:((⟨#[102,97,108,115,101]⟩:ByteArray).toList==(⟨#[116,114,117,101]⟩:ByteArray).toList)=false:=by simp only[ByteArray.toList_eq];decide
  clear x2 hcell hc ht htx hkd hn;go_wp2_with fail
  go_quiet (fail)
  obtain⟨bt,hbt⟩:=aj w4.heap.size;obtain⟨W4,hW4⟩:=aj ((w4.alloc (.cells #[.int .i64 2,.int .i64 0,.string ⟨#[]⟩,.slice none 0 0] 64)).drewN nq);have uX:Hid (Only (fun q=>q=R) w4 W4):=by show Only _ _ _;rw[hW4];exact(Ob ((Br _ _).alloc (lr _) _)).drewN nq
  have BS:Hid (W4.heap[bt]?=some (.cells #[.int .i64 2,.int .i64 0,.string ⟨#[]⟩,.slice none 0 0] 64 (0,0))):=by show _=_;rw[hW4,hbt];exact eu w4 _
  have adK:iZ W4 R (some ⟨b,off,none⟩) l.length c i d:=by rw[hW4];exact(HU.bN.below ((Br _ _).alloc (lr _) _) hRl).drewN nq
  have yX:=Hd (HU.Et IB uX adK);have MO:=HU.big;have XF:bt≠R:=by omega
  have ajf:bt≠rs:=by omega
  have ajg:bt≠rb:=by omega
  have af7:bt<W4.heap.size:=lH BS;rw[←hW4,←hbt];have ajh:Hid (w4.heap.size≤bt):=by show _≤_;omega
  clear adK hW4 hbt b0 bl c0 c1 x2' hs;have b4:=yX.box.1;have bl4:=yX.box.2.1;have c4:=yX.bN.c1;have f4:=yX.bN.frozen 1;have aji:=yX.bN.lt;obtain⟨y0,y1,y2,y3,pq⟩:=q4 BS;obtain⟨v0,v1,v2,v3,zq⟩:=q4 yX.res;have akp:=yX.big;go_wp2_with fail;have HOX:Hid (Only (fun q=>q=R) w4 W4):=uX;have HRX:Hid (iZ W4 R (some ⟨b,off,none⟩) l.length c i d):=yX.bN;have hwn:=jf (m:=0) HRX;have HUX:=Hd (HU.Et IB (HOX.trans hwn.2.1) hwn.1);have wR:=Hd HUX.res;clear v0 v1 v2 v3 zq y0 y1 y2 y3 pq;refine bR (Gg (ni wR)) rfl ?_;refine IK _ _ ?_;rw[bE,BI];rw[BI]at HUX;exact oq (t:=jv 0) (A':=none) (c':=0) _ _ _ _ (by omega) (by omega) fC HUX.bN HUX.only (aD.leaf (by show 0≤_;exact zl _))
 have rP:=fJ;have aaS:ah l i 3 rD=false:=by simpa using rP
 replace fJ:ah l i 3 [102,97,108,115,101]=false:=aaS;clear aaS;have b0:=HU.box.1;have bl:=HU.box.2.1;have hI:=HIS w3 3 ⟨#[102,97,108,115,101]⟩ HU;rw[show ah l i 3 (bs ⟨#[102,97,108,115,101]⟩)=false from fJ]at hI;have HI:=Hd hI;clear hI;go_wp2_with fail;refine HI.mono ?_;rintro e w4 ⟨rfl,m,wQ⟩;have uJ:Hid (nu R A c d l i rb rs wb w4):=by show nu _ _ _ _ _ _ _ _ _ _;rw[wQ];exact HU.drewN m
 clear HU HI wQ b0 bl;rename Hid (nu _ _ _ _ _ _ _ _ _ _)=>HU
 by_cases eT:ah l i 3 fE=true
 ·by_cases hop:ah l (i+1) 4 [40]=true
  ·by_cases hk:jd l (i+2) 2=true
   ·obtain⟨t,ht,hkd⟩:=wh hk
    by_cases hcl:ah l (i+3) 4 [41]=true
    ·have e:bM l (if d=256 then none else some T) i=(.ok (iH 4 t.text) (i+1+1+1+1)):=by
      unfold bM;rw[iN o8,iN vG,iN rP,iP eT,iP hop,iP hk,iP hcl,DW ht]
     replace bE:Hid (F=PQ R A c d l i (.ok (iH 4 t.text) (i+1+1+1+1)) wb):=by show _=_;rw[bE,HX,e]
     replace kI:Hid (F0=PQ R A c d l i (.ok (iH 4 t.text) (i+1+1+1+1)) w):=by show _=_;rw[kI,HX,e]
     clear HX e hk;have hk:=hkd;clear hkd;replace ht:l[i+1+1]?=some t:=ht;replace hcl:ah l (i+1+1+1) 4 [41]=true:=hcl;have b0:=HU.box.1;have bl:=HU.box.2.1;have hI:=HIS w4 3 ⟨#[110,101,120,116]⟩ HU;rw[show ah l i 3 (bs ⟨#[110,101,120,116]⟩)=true from eT]at hI;have HI:=Hd hI;clear hI;go_wp2_with fail;refine HI.mono ?_;rintro e w5 ⟨rfl,m,wQ⟩;have uJ:Hid (nu R A c d l i rb rs wb w5):=by show nu _ _ _ _ _ _ _ _ _ _;rw[wQ];exact HU.drewN m
     clear HU HI wQ b0 bl;rename Hid (nu _ _ _ _ _ _ _ _ _ _)=>HU;have b0:=HU.box.1;have bl:=HU.box.2.1;have c1:=HU.bN.c1;have f1:=HU.bN.frozen 1;have hRl:=HU.bN.lt;obtain⟨W2,HW2⟩:=ak (w5.setCell ⟨R,1,none⟩ (.int .i64 ((i:Int)+1)));have hwn:yU R A l.length c d (i+1) w5 W2:=by rw[HW2];exact jf (m:=0) HU.bN
     have uJ:=Hd (HU.Et IB hwn.2.1 hwn.1);clear hwn;have hil:=dL eT;have b2:=uJ.box.1;have bl2:=uJ.box.2.1;have HM:=Hd (vZ R A c (i+1) d l 4 ⟨#[40]⟩ W2 uJ.bN (HP.only uJ.only) (by omega) hop);have adM:=dL hop;clear hop;go_wp2_with fail;rw[←HW2];go_wp2_with fail;refine HM.mono ?_;rintro e w6 ⟨rfl,fB⟩;have FC:=Hd (uJ.Et IB fB.2.1 fB.1);have b3:=FC.box.1;have bl3:=FC.box.2.1;clear HU uJ HM fB b0 bl c1 f1 b2 bl2 HW2 hRl;have xR:=Hd (IL R A c (i+1+1) d l t w6 FC.bN (HP.only FC.only) ht hk);have af8:=(gE.1 ht).1;have CF:=Hd (HP.txt t (mG ht));obtain⟨nm,hnm⟩:∃nm:ByteArray,nm=⟨t.text.toArray⟩:=⟨_,rfl⟩;rw[←hnm]at xR;have XG:=Hd hnm;clear ht hk hnm;go_wp2_with fail;refine xR.mono ?_;rintro e w7 ⟨rfl,fB⟩;have yX:=Hd (FC.Et IB fB.2.1 fB.1);clear fB FC xR b3 bl3;obtain⟨bt,hbt⟩:=aj w7.heap.size;obtain⟨W8,XH⟩:=aj (w7.alloc (.cells #[.int .i64 4,.int .i64 0,.string nm,.slice none 0 0] 64));have HB8:=jZ XH hbt;have MP:=yX.bN.lt;have MO:=yX.big;have yF:Hid (nu R A c d l (i+1+1+1) rb rs wb W8):=by show nu _ _ _ _ _ _ _ _ _ _;rw[XH];exact yX.Et IB (Ob ((Br _ _).alloc (lr _) _)) (yX.bN.below ((Br _ _).alloc (lr _) _) MP)
     have XF:bt≠R:=by omega
     have af9:bt<W8.heap.size:=lH HB8;have b4:=yX.box.1;have bl4:=yX.box.2.1;have b5:=yF.box.1;have bl5:=yF.box.2.1;have HM:=Hd (vZ R A c (i+1+1+1) d l 4 ⟨#[41]⟩ W8 yF.bN (HP.only yF.only) (by omega) hcl);have akq:=dL hcl;have HW8:=Hd XH;have oW:=Hd hbt;clear hcl XH hbt MP MO yX;go_wp2_with fail;rw[←HW8,←oW];(try go_wp2_with fail);refine HM.mono ?_;rintro e w9 ⟨rfl,fB⟩;have HU6:=Hd (yF.Et IB fB.2.1 fB.1);have VT:=Hd ((fB.2.1.block bt af9 XF).trans HB8);obtain⟨y0,y1,y2,y3,pq⟩:=q4 VT;obtain⟨v0,v1,v2,v3,zq⟩:=q4 HU6.res;clear fB yF HM b4 bl4 b5 bl5;rename Hid (nu _ _ _ _ _ _ _ _ _ _)=>HU;go_wp2_with fail;have wR:=Hd HU.res;clear v0 v1 v2 v3 zq y0 y1 y2 y3 pq;refine bR (Gg (ni wR)) rfl ?_;refine IK _ _ ?_;rw[bE,BI,XG];rw[BI]at HU;exact oq (t:=iH 4 t.text) (A':=none) (c':=0) _ _ _ _ (by omega) (by omega) fC HU.bN HU.only (aD.leaf (by have:=CF.out;show t.text.toArray.size≤_;unfold maxLen;simp;omega))
    ·have hcl0:ah l (i+1+1+1) 4 [41]=false:=by simpa using hcl
     have e:bM l (if d=256 then none else some T) i=(.bad (i+1+1+1) 16):=by
      unfold bM;rw[iN o8,iN vG,iN rP,iP eT,iP hop,iP hk,iN hcl]
     replace bE:Hid (F=PQ R A c d l i (.bad (i+1+1+1) 16) wb):=by show _=_;rw[bE,HX,e]
     replace kI:Hid (F0=PQ R A c d l i (.bad (i+1+1+1) 16) w):=by show _=_;rw[kI,HX,e]
     clear HX e hk hcl;have hk:=hkd;have hcl:=hcl0;clear hkd hcl0;replace ht:l[i+1+1]?=some t:=ht;have b0:=HU.box.1;have bl:=HU.box.2.1;have hI:=HIS w4 3 ⟨#[110,101,120,116]⟩ HU;rw[show ah l i 3 (bs ⟨#[110,101,120,116]⟩)=true from eT]at hI;have HI:=Hd hI;clear hI;go_wp2_with fail;refine HI.mono ?_;rintro e w5 ⟨rfl,m,wQ⟩;have uJ:Hid (nu R A c d l i rb rs wb w5):=by show nu _ _ _ _ _ _ _ _ _ _;rw[wQ];exact HU.drewN m
     clear HU HI wQ b0 bl;rename Hid (nu _ _ _ _ _ _ _ _ _ _)=>HU;have b0:=HU.box.1;have bl:=HU.box.2.1;have c1:=HU.bN.c1;have f1:=HU.bN.frozen 1;have hRl:=HU.bN.lt;obtain⟨W2,HW2⟩:=ak (w5.setCell ⟨R,1,none⟩ (.int .i64 ((i:Int)+1)));have hwn:yU R A l.length c d (i+1) w5 W2:=by rw[HW2];exact jf (m:=0) HU.bN
     have uJ:=Hd (HU.Et IB hwn.2.1 hwn.1);clear hwn;have hil:=dL eT;have b2:=uJ.box.1;have bl2:=uJ.box.2.1;have HM:=Hd (vZ R A c (i+1) d l 4 ⟨#[40]⟩ W2 uJ.bN (HP.only uJ.only) (by omega) hop);have adM:=dL hop;clear hop;go_wp2_with fail;rw[←HW2];go_wp2_with fail;refine HM.mono ?_;rintro e w6 ⟨rfl,fB⟩;have FC:=Hd (uJ.Et IB fB.2.1 fB.1);have b3:=FC.box.1;have bl3:=FC.box.2.1;clear HU uJ HM fB b0 bl c1 f1 b2 bl2 HW2 hRl;have xR:=Hd (IL R A c (i+1+1) d l t w6 FC.bN (HP.only FC.only) ht hk);have af8:=(gE.1 ht).1;have CF:=Hd (HP.txt t (mG ht));obtain⟨nm,hnm⟩:∃nm:ByteArray,nm=⟨t.text.toArray⟩:=⟨_,rfl⟩;rw[←hnm]at xR;have XG:=Hd hnm;clear ht hk hnm;go_wp2_with fail;refine xR.mono ?_;rintro e w7 ⟨rfl,fB⟩;have yX:=Hd (FC.Et IB fB.2.1 fB.1);clear fB FC xR b3 bl3;obtain⟨bt,hbt⟩:=aj w7.heap.size;obtain⟨W8,XH⟩:=aj (w7.alloc (.cells #[.int .i64 4,.int .i64 0,.string nm,.slice none 0 0] 64));have HB8:=jZ XH hbt;have MP:=yX.bN.lt;have MO:=yX.big;have yF:Hid (nu R A c d l (i+1+1+1) rb rs wb W8):=by show nu _ _ _ _ _ _ _ _ _ _;rw[XH];exact yX.Et IB (Ob ((Br _ _).alloc (lr _) _)) (yX.bN.below ((Br _ _).alloc (lr _) _) MP)
     have XF:bt≠R:=by omega
     have af9:bt<W8.heap.size:=lH HB8;have b4:=yX.box.1;have bl4:=yX.box.2.1;have b5:=yF.box.1;have bl5:=yF.box.2.1;have HM:=Hd (Gv R A c (i+1+1+1) d l 4 ⟨#[41]⟩ W8 yF.bN (HP.only yF.only) (by omega) hcl);have HW8:=Hd XH;have oW:=Hd hbt;clear hcl XH hbt MP MO yX;go_wp2_with fail;rw[←HW8,←oW];(try go_wp2_with fail);refine HM.mono ?_;rintro e w9 ⟨rfl,m9,mE⟩;refine(show _∧_ from⟨rfl,?_⟩);refine IK _ _ ?_;rw[bE,mE];exact⟨rfl,yF.only.drewN m9⟩
   ·have hk0:jd l (i+1+1) 2=false:=by simpa using hk
    have e:bM l (if d=256 then none else some T) i=(.bad (i+1+1) 16):=by
     unfold bM;rw[iN o8,iN vG,iN rP,iP eT,iP hop,iN hk]
    replace bE:Hid (F=PQ R A c d l i (.bad (i+1+1) 16) wb):=by show _=_;rw[bE,HX,e]
    replace kI:Hid (F0=PQ R A c d l i (.bad (i+1+1) 16) w):=by show _=_;rw[kI,HX,e]
    clear HX e hk;have hk:=hk0;clear hk0;have b0:=HU.box.1;have bl:=HU.box.2.1;have hI:=HIS w4 3 ⟨#[110,101,120,116]⟩ HU;rw[show ah l i 3 (bs ⟨#[110,101,120,116]⟩)=true from eT]at hI;have HI:=Hd hI;clear hI;go_wp2_with fail;refine HI.mono ?_;rintro e w5 ⟨rfl,m,wQ⟩;have uJ:Hid (nu R A c d l i rb rs wb w5):=by show nu _ _ _ _ _ _ _ _ _ _;rw[wQ];exact HU.drewN m
    clear HU HI wQ b0 bl;rename Hid (nu _ _ _ _ _ _ _ _ _ _)=>HU;have b0:=HU.box.1;have bl:=HU.box.2.1;have c1:=HU.bN.c1;have f1:=HU.bN.frozen 1;have hRl:=HU.bN.lt;obtain⟨W2,HW2⟩:=ak (w5.setCell ⟨R,1,none⟩ (.int .i64 ((i:Int)+1)));have hwn:yU R A l.length c d (i+1) w5 W2:=by rw[HW2];exact jf (m:=0) HU.bN
    have uJ:=Hd (HU.Et IB hwn.2.1 hwn.1);clear hwn;have hil:=dL eT;have b2:=uJ.box.1;have bl2:=uJ.box.2.1;have HM:=Hd (vZ R A c (i+1) d l 4 ⟨#[40]⟩ W2 uJ.bN (HP.only uJ.only) (by omega) hop);have adM:=dL hop;clear hop;go_wp2_with fail;rw[←HW2];go_wp2_with fail;refine HM.mono ?_;rintro e w6 ⟨rfl,fB⟩;have FC:=Hd (uJ.Et IB fB.2.1 fB.1);have b3:=FC.box.1;have bl3:=FC.box.2.1;clear HU uJ HM fB b0 bl c1 f1 b2 bl2 HW2 hRl;have xR:=Hd (ac9 R A c (i+1+1) d l w6 FC.bN (HP.only FC.only) (by omega) hk);go_wp2_with fail;refine xR.mono ?_;rintro e w9 ⟨rfl,m9,mE⟩;refine(show _∧_ from⟨rfl,?_⟩);refine IK _ _ ?_;rw[bE,mE];exact⟨rfl,FC.only.drewN m9⟩
  ·have ajj:ah l (i+1) 4 [40]=false:=by simpa using hop
   have e:bM l (if d=256 then none else some T) i=(.bad (i+1) 16):=by
    unfold bM;rw[iN o8,iN vG,iN rP,iP eT,iN hop]
   replace bE:Hid (F=PQ R A c d l i (.bad (i+1) 16) wb):=by show _=_;rw[bE,HX,e]
   replace kI:Hid (F0=PQ R A c d l i (.bad (i+1) 16) w):=by show _=_;rw[kI,HX,e]
   clear HX e hop;have hop:=ajj;clear ajj;have b0:=HU.box.1;have bl:=HU.box.2.1;have hI:=HIS w4 3 ⟨#[110,101,120,116]⟩ HU;rw[show ah l i 3 (bs ⟨#[110,101,120,116]⟩)=true from eT]at hI;have HI:=Hd hI;clear hI;go_wp2_with fail;refine HI.mono ?_;rintro e w5 ⟨rfl,m,wQ⟩;have uJ:Hid (nu R A c d l i rb rs wb w5):=by show nu _ _ _ _ _ _ _ _ _ _;rw[wQ];exact HU.drewN m
   clear HU HI wQ b0 bl;rename Hid (nu _ _ _ _ _ _ _ _ _ _)=>HU;have b0:=HU.box.1;have bl:=HU.box.2.1;have c1:=HU.bN.c1;have f1:=HU.bN.frozen 1;have hRl:=HU.bN.lt;obtain⟨W2,HW2⟩:=ak (w5.setCell ⟨R,1,none⟩ (.int .i64 ((i:Int)+1)));have hwn:yU R A l.length c d (i+1) w5 W2:=by rw[HW2];exact jf (m:=0) HU.bN
   have uJ:=Hd (HU.Et IB hwn.2.1 hwn.1);clear hwn;have hil:=dL eT;have b2:=uJ.box.1;have bl2:=uJ.box.2.1;have HM:=Hd (Gv R A c (i+1) d l 4 ⟨#[40]⟩ W2 uJ.bN (HP.only uJ.only) (by omega) hop);clear hop;go_wp2_with fail;rw[←HW2];go_wp2_with fail;refine HM.mono ?_;rintro e w9 ⟨rfl,m9,mE⟩;refine(show _∧_ from⟨rfl,?_⟩);refine IK _ _ ?_;rw[bE,mE];exact⟨rfl,uJ.only.drewN m9⟩
 have FD:=eT;have adN:ah l i 3 fE=false:=by simpa using FD
 replace eT:ah l i 3 [110,101,120,116]=false:=adN;clear adN;have b0:=HU.box.1;have bl:=HU.box.2.1;have hI:=HIS w4 3 ⟨#[110,101,120,116]⟩ HU;rw[show ah l i 3 (bs ⟨#[110,101,120,116]⟩)=false from eT]at hI;have HI:=Hd hI;clear hI;go_wp2_with fail;refine HI.mono ?_;rintro e w5 ⟨rfl,m,wQ⟩;have uJ:Hid (nu R A c d l i rb rs wb w5):=by show nu _ _ _ _ _ _ _ _ _ _;rw[wQ];exact HU.drewN m
 clear HU HI wQ b0 bl;rename Hid (nu _ _ _ _ _ _ _ _ _ _)=>HU
 by_cases nI:ah l i 4 [40]=true
 ·have e:bM l (if d=256 then none else some T) i=((if d=256 then .bad i 17 else T (i+1)).then fun t j=>if ah l j 4 [41]then .ok t (j+1)else .bad j 16):=by
   unfold bM;rw[iN o8,iN vG,iN rP,iN FD,iP nI]
   by_cases h:d=256
   ·simp only[h,if_true];rfl
   ·simp only[h,if_false];rfl
  replace bE:Hid (F=PQ R A c d l i ((if d=256 then .bad i 17 else T (i+1)).then fun t j=>if ah l j 4 [41]then .ok t (j+1)else .bad j 16) wb):=by show _=_;rw[bE,HX,e]
  replace kI:Hid (F0=PQ R A c d l i ((if d=256 then .bad i 17 else T (i+1)).then fun t j=>if ah l j 4 [41]then .ok t (j+1)else .bad j 16) w):=by show _=_;rw[kI,HX,e]
  clear HX e;have b0:=HU.box.1;have bl:=HU.box.2.1;have hI:=HIS w5 4 ⟨#[40]⟩ HU;rw[show ah l i 4 (bs ⟨#[40]⟩)=true from nI]at hI;have HI:=Hd hI;clear hI;go_wp2_with fail;refine HI.mono ?_;rintro e w6 ⟨rfl,m,wQ⟩;have uJ:Hid (nu R A c d l i rb rs wb w6):=by show nu _ _ _ _ _ _ _ _ _ _;rw[wQ];exact HU.drewN m
  clear HU HI wQ b0 bl;rename Hid (nu _ _ _ _ _ _ _ _ _ _)=>HU;have b0:=HU.box.1;have bl:=HU.box.2.1;have hil:=dL nI;have HIN:Hid (Calls Tryz.prog 174 #[.pointer (some ⟨R,0,none⟩),.func (.func 122) #[.pointer (some ⟨R,0,none⟩)] #[]] w6 (PQ R A c d l i (if d=256 then .bad i 17 else T (i+1)) w6)):=Cu R A c d l 122 (.pointer (some ⟨R,0,none⟩)) true (fun _=>True) T i w6 (fun _ _=>by kernel_rfl) (fun _ _ _ _=>trivial) hT hd hil HU.bN (HP.only HU.only) trivial;obtain⟨r,hr⟩:=aj ((if d=256 then .bad i 17 else T (i+1)));have dJ:Hid (F=PQ R A c d l i (r.then fun t j=>if ah l j 4 [41]then .ok t (j+1)else .bad j 16) wb):=by show _=_;rw[bE,hr]
  rw[←hr]at HIN;clear hr hT bE;go_wp2_with fail;refine HIN.mono ?_;intro e w4 hq
  rcases r with⟨jb,xb⟩|⟨t,j⟩
  ·obtain⟨rfl,iC⟩:=hq;refine(show _∧_ from⟨rfl,?_⟩);refine IK _ _ ?_;rw[dJ];exact⟨rfl,HU.only.trans iC⟩
  obtain⟨⟨A',c',rfl,hV⟩,hij,hjl,vD,iC⟩:=hq;have yX:=Hd (HU.Et IB iC vD);have hwk:=HU.only.size;obtain⟨n2,hn2⟩:=aj t.kids.length;unfold Tm.val;rw[←hn2];have alJ:=HU.big;have hVS:aD (fun q=>wb.heap.size<q) w4 A' c' t:=hV.keep Kr (fun q _ h=>by have:=BI.out;omega);clear HU b0 bl HIN hV iC;obtain⟨bt,hbt⟩:=aj w4.heap.size;obtain⟨W8,XH⟩:=aj (w4.alloc (.cells #[.int .i64 t.op,.int .i64 t.num,.string t.name,.slice A' n2 c'] 64));have HB8:=jZ XH hbt;have MP:=yX.bN.lt;have MO:=yX.big;have yF:Hid (nu R A c d l j rb rs wb W8):=by show nu _ _ _ _ _ _ _ _ _ _;rw[XH];exact yX.Et IB (Ob ((Br _ _).alloc (lr _) _)) (yX.bN.below ((Br _ _).alloc (lr _) _) MP)
  have HV5:Hid (aD (fun q=>wb.heap.size<q) W8 A' c' t):=by show aD _ _ _ _ _;rw[XH];exact hVS.keep (Kb ((Br _ _).alloc (lr _) _)) (fun _ _ h=>h)
  have XF:bt≠R:=by omega
  have af9:bt<W8.heap.size:=lH HB8;have b4:=yX.box.1;have bl4:=yX.box.2.1;have b5:=yF.box.1;have bl5:=yF.box.2.1;have HW8:=Hd XH;have oW:=Hd hbt;have kU:=Hd hn2;have alK:R<wb.heap.size:=fC;clear XH hbt MP MO hVS hn2 vD;go_wp2_with fail;rw[←HW8,←oW]
  by_cases hcl:ah l j 4 [41]=true
  ·have HM:=Hd (vZ R A c j d l 4 ⟨#[41]⟩ W8 yF.bN (HP.only yF.only) (by omega) hcl);have akq:=dL hcl;have pR:Hid (F=PQ R A c d l i (.ok t (j+1)) wb):=by show _=_;rw[dJ];show PQ R A c d l i (if ah l j 4 [41]=true then _ else _) wb=_;rw[iP hcl]
   clear hcl dJ;(try go_wp2_with fail);refine HM.mono ?_;rintro e w9 ⟨rfl,fB⟩;have HU6:=Hd (yF.Et IB fB.2.1 fB.1);have HV6:Hid (aD (fun q=>wb.heap.size<q) w9 A' c' t):=HV5.keep (aR.cO fB.2.1 (by omega)) (fun _ _ h=>h);have VT:=Hd ((fB.2.1.block bt af9 XF).trans HB8);obtain⟨y0,y1,y2,y3,pq⟩:=q4 VT;obtain⟨v0,v1,v2,v3,zq⟩:=q4 HU6.res;clear fB yX yF HM b4 bl4 b5 bl5;rename Hid (nu _ _ _ _ _ _ _ _ _ _)=>HU;go_wp2_with fail;have wR:=Hd HU.res;clear v0 v1 v2 v3 zq y0 y1 y2 y3 pq;refine bR (Gg (ni wR)) rfl ?_;refine IK _ _ ?_;rw[pR,BI];rw[BI]at HU;have h:=oq (.int .i64 t.op) (.int .i64 t.num) (.string t.name) (.slice A' n2 c') (show i<j+1 by omega) (show j+1≤l.length by omega) fC HU.bN HU.only HV6;unfold Tm.val at h;rw[←kU]at h;exact h
  ·have hcf:ah l j 4 [41]=false:=by simpa using hcl
   have HM:=Hd (Gv R A c j d l 4 ⟨#[41]⟩ W8 yF.bN (HP.only yF.only) (by omega) hcf);have pR:Hid (F=PQ R A c d l i (.bad j 16) wb):=by show _=_;rw[dJ];show PQ R A c d l i (if ah l j 4 [41]=true then _ else _) wb=_;rw[iN hcl]
   clear hcl hcf dJ;(try go_wp2_with fail);refine HM.mono ?_;rintro e w9 ⟨rfl,m9,mE⟩;refine(show _∧_ from⟨rfl,?_⟩);refine IK _ _ ?_;rw[pR,mE];exact⟨rfl,yF.only.drewN m9⟩
 have Je:=nI;have adO:ah l i 4 [40]=false:=by simpa using Je
 replace nI:ah l i 4 [40]=false:=adO;clear adO;have b0:=HU.box.1;have bl:=HU.box.2.1;have hI:=HIS w5 4 ⟨#[40]⟩ HU;rw[show ah l i 4 (bs ⟨#[40]⟩)=false from nI]at hI;have HI:=Hd hI;clear hI;go_wp2_with fail;refine HI.mono ?_;rintro e w6 ⟨rfl,m,wQ⟩;have uJ:Hid (nu R A c d l i rb rs wb w6):=by show nu _ _ _ _ _ _ _ _ _ _;rw[wQ];exact HU.drewN m
 clear HU HI wQ b0 bl;rename Hid (nu _ _ _ _ _ _ _ _ _ _)=>HU
 by_cases Jf:ah l i 3 wIf=true
 ·have e:bM l (if d=256 then none else some T) i=(if d=256 then .bad i 17 else Xe l T (i+1)):=by
   unfold bM;rw[iN o8,iN vG,iN rP,iN FD,iN Je,iP Jf]
   by_cases h:d=256
   ·simp only[h,if_true];rfl
   ·simp only[h,if_false];rfl
  replace bE:Hid (F=PQ R A c d l i (if d=256 then .bad i 17 else Xe l T (i+1)) wb):=by show _=_;rw[bE,HX,e]
  replace kI:Hid (F0=PQ R A c d l i (if d=256 then .bad i 17 else Xe l T (i+1)) w):=by show _=_;rw[kI,HX,e]
  clear HX e;have b0:=HU.box.1;have bl:=HU.box.2.1;have hI:=HIS w6 3 ⟨#[105,102]⟩ HU;rw[show ah l i 3 (bs ⟨#[105,102]⟩)=true from Jf]at hI;have HI:=Hd hI;clear hI;go_wp2_with fail;refine HI.mono ?_;rintro e w7 ⟨rfl,m,wQ⟩;have uJ:Hid (nu R A c d l i rb rs wb w7):=by show nu _ _ _ _ _ _ _ _ _ _;rw[wQ];exact HU.drewN m
  clear HU HI wQ b0 bl;rename Hid (nu _ _ _ _ _ _ _ _ _ _)=>HU;have b0:=HU.box.1;have bl:=HU.box.2.1;have hil:=dL Jf;have akr:=HU.bN.lt;have alL:=HU.big;obtain⟨tb,htb⟩:=aj w7.heap.size;obtain⟨W3,hW3⟩:=aj (w7.alloc (.cells #[.int .i64 18,.int .i64 0,.string ⟨#[]⟩,.slice none 0 0] 64));have hO3:Only (fun q=>q=R) w7 W3:=by rw[hW3];exact Ob ((Br _ _).alloc (lr _) _)
  have ajk:=jZ hW3 htb;have ajl:iZ W3 R A l.length c i d:=by rw[hW3];exact HU.bN.below ((Br _ _).alloc (lr _) _) akr
  have FC:=Hd (HU.Et IB hO3 ajl);have alM:=HU.only.size;have alN:R<w.heap.size:=Og
  have HIN:Hid (Calls Tryz.prog 174 #[.pointer (some ⟨R,0,none⟩),.func (.func 210) #[] #[.pointer (some ⟨tb,0,none⟩),.pointer (some ⟨rb,0,none⟩)]] W3 (Oi R A c d l i tb (if d=256 then .bad i 17 else Xe l T (i+1)) w W3 W3.heap.size)):=
   Rf R A c d l tb rb w W3 i T hT Og (by have:=VW.out;have:=aje.out;omega) (by have:=VW.out;omega) (lH ajk) (by have:=VW.out;omega) hd hil FC.bN HPW (HOB.trans FC.only) FC.box ajk
  obtain⟨r,hr⟩:=aj ((if d=256 then .bad i 17 else Xe l T (i+1)));rw[←hr]at HIN;have dJ:Hid (F=PQ R A c d l i r wb):=by show _=_;rw[bE,hr]
  have ajm:Hid (F0=PQ R A c d l i r w):=by show _=_;rw[kI,hr]
  have b3:=FC.box.1;have bl3:=FC.box.2.1;have alO:tb≠R:=by omega
  have ajn:tb≠rs:=by omega
  have ajo:tb≠rb:=by omega
  have alP:wb.heap.size<tb:=by have:=BI.out;omega
  have alQ:W3.heap.size=tb+1:=by rw[hW3,htb];simp
  have HW3:=Hd hW3;have aks:=Hd htb;have hbx0:=b0;clear hr hT bE kI hW3 htb hO3 ajl;go_wp2_with fail;rw[←HW3,←aks];(try go_wp2_with fail);refine HIN.mono ?_;intro e w4 hq
  rcases r with⟨jb,xb⟩|⟨t,j⟩
  ·obtain⟨rfl,iC⟩:=hq;refine(show _∧_ from⟨rfl,?_⟩);rw[ajm];exact⟨rfl,iC⟩
  obtain⟨⟨A',c',rfl,XE,hV⟩,hij,hjl,vD,af6,iC⟩:=hq;have uX:Hid (Only (fun q=>q=R) wb w4):=FC.only.ako iC (by omega);have yX:Hid (nu R A c d l j rb rs wb w4):=⟨vD,⟨(World.cell?_of_block (a:=⟨rb,0,none⟩) (iC.block rb bl3 (fun h=>h.elim ahA (fun h=>ajo h.symm)))).trans b3,lL bl3 iC.size,ahA⟩,(iC.block rs FC.big (fun h=>h.elim IB (fun h=>ajn h.symm))).trans FC.res,uX,lL FC.big iC.size⟩;have HV4:Hid (aD (fun q=>wb.heap.size<q) w4 A' c' t):=hV.keep Kr (fun q _ h=>by omega);obtain⟨n2,kU⟩:=ak t.kids.length;unfold Tm.val;rw[←kU]at XE⊢;have ahC:=Hd XE;obtain⟨y0,y1,y2,y3,pq⟩:=q4 XE;obtain⟨v0,v1,v2,v3,zq⟩:=q4 yX.res;clear HU FC hV vD af6 iC XE b0 bl b3 bl3 HIN hbx0;rename Hid (nu _ _ _ _ _ _ _ _ _ _)=>HU;go_wp2_with fail;have wR:=Hd HU.res;clear v0 v1 v2 v3 zq y0 y1 y2 y3 pq;refine bR (Gg (ni wR)) rfl ?_;refine IK _ _ ?_;rw[dJ,BI];rw[BI]at HU;have h:=oq (.int .i64 t.op) (.int .i64 t.num) (.string t.name) (.slice A' n2 c') hij hjl fC HU.bN HU.only HV4;unfold Tm.val at h;rw[←kU]at h;exact h
 have adP:=Jf;have ajp:ah l i 3 wIf=false:=by simpa using adP
 replace Jf:ah l i 3 [105,102]=false:=ajp;clear ajp;have b0:=HU.box.1;have bl:=HU.box.2.1;have hI:=HIS w6 3 ⟨#[105,102]⟩ HU;rw[show ah l i 3 (bs ⟨#[105,102]⟩)=false from Jf]at hI;have HI:=Hd hI;clear hI;go_wp2_with fail;refine HI.mono ?_;rintro e w7 ⟨rfl,m,wQ⟩;have uJ:Hid (nu R A c d l i rb rs wb w7):=by show nu _ _ _ _ _ _ _ _ _ _;rw[wQ];exact HU.drewN m
 clear HU HI wQ b0 bl;rename Hid (nu _ _ _ _ _ _ _ _ _ _)=>HU
 by_cases h7:jd l i 2=true
 ·obtain⟨t,ht,hk⟩:=wh h7
  have e:bM l (if d=256 then none else some T) i=(.ok (iH 3 t.text) (i+1)):=by
   unfold bM;rw[iN o8,iN vG,iN rP,iN FD,iN Je,iN adP,iP h7,DW ht]
  replace bE:Hid (F=PQ R A c d l i (.ok (iH 3 t.text) (i+1)) wb):=by show _=_;rw[bE,HX,e]
  replace kI:Hid (F0=PQ R A c d l i (.ok (iH 3 t.text) (i+1)) w):=by show _=_;rw[kI,HX,e]
  clear HX e h7
  rcases HP.toks with h0|⟨b,off,rfl,hb,hc⟩
  ·rw[h0]at ht;simp at ht
  have hbR:b≠R:=HP.apart _ rfl;have b0:=HU.box.1;have bl:=HU.box.2.1;have hil:=(gE.1 ht).1;obtain⟨n,hn⟩:=aj l.length;have c0:=HU.bN.c0;have c1:=HU.bN.c1;rw[←hn]at c0;have hRl:=HU.bN.lt;have hlc:=HP.cap;have hcm:=HP.bU;unfold maxLen at hcm;rw[←hn]at hlc;have hk0:(0:Int)≤(i:Int):=by omega
  have hk1:(i:Int)<(n:Int):=by omega
  have hin:i<n:=by omega
  have CB:n≤100000:=by omega
  have hbw:b<w7.heap.size:=lL hb HU.only.size;have Tg:R≠b:=fun h=>hbR h.symm
  have hcell:∀j,j<4→w7.cell? ⟨b,off+i*4+j,none⟩=some (fZ t j):=fun j hj=>by
   rw[HU.only.cell hb hbR];exact hc i t ht j hj
  have x0:=hcell 0 (by omega);simp only[fZ,Nat.add_zero]at x0;rw[hk]at x0;have xR:=Hd (fun m=>IL R (some ⟨b,off,none⟩) c i d l t (w7.drewN m) (HU.drewN m).bN (HP.only (HU.drewN m).only) ht hk);have CF:=Hd (HP.txt t (mG ht));obtain⟨nm,hnm⟩:∃nm:ByteArray,nm=⟨t.text.toArray⟩:=⟨_,rfl⟩;rw[←hnm]at xR;have XG:=Hd hnm;clear hcell hc ht hk hn hnm;go_wp2_with fail
  go_quiet (fail)
  obtain⟨W5,Es⟩:=aj (w7.drewN nq);have yF:Hid (nu R (some ⟨b,off,none⟩) c d l i rb rs wb W5):=by show nu _ _ _ _ _ _ _ _ _ _;rw[Es];exact HU.drewN nq
  have XI:=xR nq;rw[←Es]at XI⊢;have Rh:=Hd XI;clear xR XI HU Es b0 bl x0 c0 c1;have b5:=yF.box.1;have bl5:=yF.box.2.1;go_wp2_with fail;refine Rh.mono ?_;rintro e w9 ⟨rfl,fB⟩;have HU6:=Hd (yF.Et IB fB.2.1 fB.1);clear yF fB Rh b5 bl5;rename Hid (nu _ _ _ _ _ _ _ _ _ _)=>HU;have akt:=HU.big;obtain⟨v0,v1,v2,v3,zq⟩:=q4 HU.res;go_wp2_with fail;have wR:=Hd HU.res;clear v0 v1 v2 v3 zq;refine bR (Gg (ni wR)) rfl ?_;refine IK _ _ ?_;rw[bE,BI,XG];rw[BI]at HU;exact oq (t:=iH 3 t.text) (A':=none) (c':=0) _ _ _ _ (by omega) (by omega) fC HU.bN HU.only (aD.leaf (by have:=CF.out;show t.text.toArray.size≤_;unfold maxLen;simp;omega))
 by_cases h8:jd l i 1=true
 ·obtain⟨t,ht,hk⟩:=wh h8
  have e:bM l (if d=256 then none else some T) i=(.ok (j6 t.n) (i+1)):=by
   unfold bM;rw[iN o8,iN vG,iN rP,iN FD,iN Je,iN adP,iN h7,iP h8,G8 ht]
  replace bE:Hid (F=PQ R A c d l i (.ok (j6 t.n) (i+1)) wb):=by show _=_;rw[bE,HX,e]
  replace kI:Hid (F0=PQ R A c d l i (.ok (j6 t.n) (i+1)) w):=by show _=_;rw[kI,HX,e]
  clear HX e h7 h8
  rcases HP.toks with h0|⟨b,off,rfl,hb,hc⟩
  ·rw[h0]at ht;simp at ht
  have hbR:b≠R:=HP.apart _ rfl;have b0:=HU.box.1;have bl:=HU.box.2.1;have hil:=(gE.1 ht).1;obtain⟨n,hn⟩:=aj l.length;have c0:=HU.bN.c0;have c1:=HU.bN.c1;rw[←hn]at c0;have hRl:=HU.bN.lt;have hlc:=HP.cap;have hcm:=HP.bU;unfold maxLen at hcm;rw[←hn]at hlc;have hk0:(0:Int)≤(i:Int):=by omega
  have hk1:(i:Int)<(n:Int):=by omega
  have hin:i<n:=by omega
  have CB:n≤100000:=by omega
  have hbw:b<w7.heap.size:=lL hb HU.only.size;have Tg:R≠b:=fun h=>hbR h.symm
  have hcell:∀j,j<4→w7.cell? ⟨b,off+i*4+j,none⟩=some (fZ t j):=fun j hj=>by
   rw[HU.only.cell hb hbR];exact hc i t ht j hj
  have x0:=hcell 0 (by omega);simp only[fZ,Nat.add_zero]at x0;rw[hk]at x0;have xR:=Hd (fun m=>Ti R (some ⟨b,off,none⟩) c i d l t (w7.drewN m) (HU.drewN m).bN (HP.only (HU.drewN m).only) ht hk);obtain⟨nm,XG⟩:=ak t.n;rw[←XG]at xR;clear hcell hc ht hk hn;go_wp2_with fail
  go_quiet (fail)
  obtain⟨W5,Es⟩:=aj (w7.drewN nq);have yF:Hid (nu R (some ⟨b,off,none⟩) c d l i rb rs wb W5):=by show nu _ _ _ _ _ _ _ _ _ _;rw[Es];exact HU.drewN nq
  have XI:=xR nq;rw[←Es]at XI⊢;have Rh:=Hd XI;clear xR XI HU Es b0 bl x0 c0 c1;have b5:=yF.box.1;have bl5:=yF.box.2.1;go_wp2_with fail;refine Rh.mono ?_;rintro e w9 ⟨rfl,fB⟩;have HU6:=Hd (yF.Et IB fB.2.1 fB.1);clear yF fB Rh b5 bl5;rename Hid (nu _ _ _ _ _ _ _ _ _ _)=>HU;have akt:=HU.big;obtain⟨v0,v1,v2,v3,zq⟩:=q4 HU.res;go_wp2_with fail;have wR:=Hd HU.res;clear v0 v1 v2 v3 zq;refine bR (Gg (ni wR)) rfl ?_;refine IK _ _ ?_;rw[bE,BI,XG];rw[BI]at HU;exact oq (t:=j6 t.n) (A':=none) (c':=0) _ _ _ _ (by omega) (by omega) fC HU.bN HU.only (aD.leaf (by show 0≤_;exact zl _))
 have XJ:jd l i 1=false:=by simpa using h8
 have g7:jd l i 2=false:=by simpa using h7
 rcases DJ g7 with hge|⟨t,ht,hk2⟩
 ·have e:bM l (if d=256 then none else some T) i=(.bad i 16):=by
   unfold bM;rw[iN o8,iN vG,iN rP,iN FD,iN Je,iN adP,iN h7,iN h8]
  replace bE:Hid (F=PQ R A c d l i (.bad i 16) wb):=by show _=_;rw[bE,HX,e]
  replace kI:Hid (F0=PQ R A c d l i (.bad i 16) w):=by show _=_;rw[kI,HX,e]
  clear HX e h7 h8 g7;have c0:=HU.bN.c0;have c1:=HU.bN.c1;obtain⟨n,hn⟩:=aj l.length;rw[←hn]at c0;have hRl:=HU.bN.lt;have hk1:¬(i:Int)<(n:Int):=by omega
  have hd:decide ((i:Int)<(n:Int))=false:=dF hk1;have hd2:decide (i<n)=false:=dF (by omega);have hlc:=HP.cap;have hcm:=HP.bU;unfold maxLen at hcm;rw[←hn]at hlc;have CB:n≤100000:=by omega
  have xO:=Hd XJ;clear hn XJ hge;have b0:=HU.box.1;have bl:=HU.box.2.1;go_wp2_with fail
  go_quiet (fail)
  obtain⟨W5,Es⟩:=aj (w7.drewN nq);have yF:Hid (nu R A c d l i rb rs wb W5):=by show nu _ _ _ _ _ _ _ _ _ _;rw[Es];exact HU.drewN nq
  rw[←Es];have Rh:=Hd (QH R A c i d l W5 yF.bN (HP.only yF.only) (by omega) xO);clear HU Es b0 bl c0 c1;have b5:=yF.box.1;have bl5:=yF.box.2.1;go_wp2_with fail;refine Rh.mono ?_;rintro e w9 ⟨rfl,m9,mE⟩;refine(show _∧_ from⟨rfl,?_⟩);refine IK _ _ ?_;rw[bE,mE];exact⟨rfl,yF.only.drewN m9⟩
 ·have e:bM l (if d=256 then none else some T) i=(.bad i 16):=by
   unfold bM;rw[iN o8,iN vG,iN rP,iN FD,iN Je,iN adP,iN h7,iN h8]
  replace bE:Hid (F=PQ R A c d l i (.bad i 16) wb):=by show _=_;rw[bE,HX,e]
  replace kI:Hid (F0=PQ R A c d l i (.bad i 16) w):=by show _=_;rw[kI,HX,e]
  clear HX e h7 h8 g7
  rcases HP.toks with h0|⟨b,off,rfl,hb,hc⟩
  ·rw[h0]at ht;simp at ht
  have hbR:b≠R:=HP.apart _ rfl;have b0:=HU.box.1;have bl:=HU.box.2.1;have hil:=(gE.1 ht).1;obtain⟨n,hn⟩:=aj l.length;have c0:=HU.bN.c0;have c1:=HU.bN.c1;rw[←hn]at c0;have hRl:=HU.bN.lt;have hlc:=HP.cap;have hcm:=HP.bU;unfold maxLen at hcm;rw[←hn]at hlc;have hk0:(0:Int)≤(i:Int):=by omega
  have hk1:(i:Int)<(n:Int):=by omega
  have hin:i<n:=by omega
  have CB:n≤100000:=by omega
  have hbw:b<w7.heap.size:=lL hb HU.only.size;have Tg:R≠b:=fun h=>hbR h.symm
  have hcell:∀j,j<4→w7.cell? ⟨b,off+i*4+j,none⟩=some (fZ t j):=fun j hj=>by
   rw[HU.only.cell hb hbR];exact hc i t ht j hj
  have x0:=hcell 0 (by omega);simp only[fZ,Nat.add_zero]at x0;have hkb:(t.kind==2)=false:=by simpa using hk2
  have hkb2:(t.kind != 2)=true:=by simpa using hk2
  have xO:=Hd XJ;clear hcell hc ht hk2 hn XJ;go_wp2_with fail
  go_quiet (fail)
  obtain⟨W5,Es⟩:=aj (w7.drewN nq);have yF:Hid (nu R (some ⟨b,off,none⟩) c d l i rb rs wb W5):=by show nu _ _ _ _ _ _ _ _ _ _;rw[Es];exact HU.drewN nq
  rw[←Es];have Rh:=Hd (QH R (some ⟨b,off,none⟩) c i d l W5 yF.bN (HP.only yF.only) (by omega) xO);clear HU Es b0 bl c0 c1 x0;have b5:=yF.box.1;have bl5:=yF.box.2.1;go_wp2_with fail;refine Rh.mono ?_;rintro e w9 ⟨rfl,m9,mE⟩;refine(show _∧_ from⟨rfl,?_⟩);refine IK _ _ ?_;rw[bE,mE];exact⟨rfl,yF.only.drewN m9⟩
end Go.Proofs.YtkhoeoilamddaaaGreatDoor
