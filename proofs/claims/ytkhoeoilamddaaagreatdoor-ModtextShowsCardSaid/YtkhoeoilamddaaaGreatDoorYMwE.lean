/- Walks and plain words: MwE MdE MtA. -/
import Derived.Test.YtkhoeoilamddaaaGreatDoorYMwD
namespace Go.Proofs.YtkhoeoilamddaaaGreatDoor
open Go.RowKit
set_option linter.unusedVariables false
set_option maxRecDepth 100000
set_option maxHeartbeats 16000000
abbrev ER:=@q8
structure Km(w:World)(V:Nat→Value)(m:Md):Prop where
 vars:fK GN 4 w (V 0) m.vars
 defs:fK uD 5 w (V 1) m.defs
 init:fK gB 4 w (V 2) m.init
 bF:fK gB 4 w (V 3) m.bF
 next:fK uD 5 w (V 4) m.next
 trans:fK gB 4 w (V 5) m.trans
 fair:fK gB 4 w (V 6) m.fair
 specs:fK Fw 7 w (V 7) m.specs
theorem Km.below{w w':World}{V:Nat→Value}{m:Md}(h:Km w V m)(hb:Below w.heap.size w w'):Km w' V m:=
 ⟨h.vars.below (GN.below hb) hb.size,h.defs.below (uD.below hb) hb.size,h.init.below (fun g o x hg=>gB.below hb rfl hg) hb.size,h.bF.below (fun g o x hg=>gB.below hb rfl hg) hb.size,h.next.below (uD.below hb) hb.size,h.trans.below (fun g o x hg=>gB.below hb rfl hg) hb.size,h.fair.below (fun g o x hg=>gB.below hb rfl hg) hb.size,h.specs.below (Fw.below hb) hb.size⟩
def aho(f:Fm):Prop:=∀Ae ce A c W,pO W Ae ce A c f→je W→Calls Tryz.prog 28 #[f.val Ae ce A c] W fun e w'=>e=.returned (.tuple #[.string ⟨(dX f).1.toArray⟩,.int .i64 (dX f).2])∧Below W.heap.size W w'
structure JQ(m:Md):Prop where
 defs:∀d∈m.defs,ShX d.tm
 init:∀t∈m.init,ShX t
 bF:∀t∈m.bF,ShX t
 next:∀d∈m.next,ShX d.tm
 trans:∀t∈m.trans,ShX t
 fair:∀t∈m.fair,ShX t
 specs:∀s∈m.specs,aho s.fm
structure WZ(m:Md):Prop where
 vars:∀d∈m.vars,d.name.size≤maxLen
 defs:∀d∈m.defs,d.name.size≤maxLen
 next:∀d∈m.next,d.name.size≤maxLen
 specs:∀d∈m.specs,d.name.size≤maxLen
theorem abH(f:Fm):(dX f).1.length≤65536:=by
 unfold dX
 split
 ·simp
 split
 ·simp
 split
 ·simp
 ·show(aG f 1).1.length≤_;omega
theorem adp{l:Bs}{s:ByteArray}{f:Fm}(h:qc 0 s≠0):mK (l,0) (Kl ⟨s,f⟩)=(l,qc 0 s):=by
 rw[vT]at h⊢
 cases hn:isName (bs s)with
 |false=>
  have h':isName s.data.toList=false:=hn;simp[Kl,mK,h']
 |true=>rw[hn]at h;exact absurd rfl h
theorem afT{l:Bs}{s:ByteArray}{f:Fm}(h:qc 0 s=0):mK (l,0) (Kl ⟨s,f⟩)=(rM l (dX f).2 [⟨#[115,112,101,99]⟩,s,⟨#[58]⟩,⟨(dX f).1.toArray⟩],(dX f).2):=by
 rw[vT]at h
 cases hn:isName (bs s)with
 |false=>rw[hn]at h;cases h
 |true=>
  have h':¬isName s.data.toList=false:=by show ¬isName (bs s)=false;rw[hn];decide
  by_cases h:(dX f).2=0
  ·simp[Kl,mK,h',h,rM,om,Lib.join,pI]
  ·simp[Kl,mK,h',h,rM]
theorem q7w{w:World}{b:Nat}{T:TypeId}{u0 u1 u2 u3 u4 u5 u6:Value}(h:w.heap[b]?=some (.cells #[u0,u1,u2,u3,u4,u5,u6] T (0,0))):w.cell? ⟨b,0,none⟩=some u0∧w.cell? ⟨b,1,none⟩=some u1∧w.cell? ⟨b,2,none⟩=some u2∧w.cell? ⟨b,3,none⟩=some u3∧w.cell? ⟨b,4,none⟩=some u4∧w.cell? ⟨b,5,none⟩=some u5∧w.cell? ⟨b,6,none⟩=some u6∧∀j,w.frozen? ⟨b,j,none⟩=false:=
 ⟨pG h 0 rfl,pG h 1 rfl,pG h 2 rfl,pG h 3 rfl,pG h 4 rfl,pG h 5 rfl,pG h 6 rfl,frz h⟩
theorem QX{B:Nat}{a w:World}(h:Below B a w)(n:Nat):Below B a (w.drewN n):=⟨h.os,h.tape,h.output,h.size,h.block⟩
theorem adq{l:Bs}{v:Vr}:(mK (l,0) (mM v)).1.length≤l.length+70000:=by
 have hlen:(mM v).1.length≤70000:=by
  unfold mM
  split
  ·simp
  ·rename_i hn
   have h2:isName v.name.data.toList=true:=by cases h:isName v.name.data.toList<;>simp_all
   have h3:v.name.size≤24:=AP h2
   split
   ·split
    ·simp
    ·have:v.name.data.toList.length=v.name.size:=rfl;simp only[kV,vP,AJ,List.length_append,List.length_cons,List.length_nil];omega
   ·split
    ·simp
    ·rename_i hf
     have hf:vB v.lo=false∧vB v.hi=false:=by simpa using hf
     have h4:=bB _ (DL hf.1).1 (DL hf.1).2;have h5:=bB _ (DL hf.2).1 (DL hf.2).2;have:v.name.data.toList.length=v.name.size:=rfl;simp only[kV,AJ,List.length_append,List.length_cons,List.length_nil];omega
 unfold mK;rw[iN (fun h=>h rfl)]
 split
 ·show l.length≤_;omega
 ·show(l++_).length≤_;rw[List.length_append];omega
theorem I7(V:Nat→Value)(m:Md)(w:World)(hM:Km w V m)(hX:JQ m)(hNm:WZ m)(hT:je w) :
 Calls Tryz.prog 12 #[.agg #[V 0,V 1,V 2,V 3,V 4,V 5,V 6,V 7]] w fun r w'=>r=.returned (.tuple #[.string ⟨(kg m).1.toArray⟩,.int .i64 (kg m).2])∧Below w.heap.size w w':=by
 obtain⟨F,HF⟩:=ak (fun(r:Ending)(w':World)=>r=.returned (.tuple #[.string ⟨(kg m).1.toArray⟩,.int .i64 (kg m).2])∧Below w.heap.size w w');rw[←HF];obtain⟨A0,c0,e0,p0,q0,r0⟩:=hM.vars;have R0:=Hd (show fK GN 4 w (.slice A0 m.vars.length c0) m.vars from⟨A0,c0,rfl,p0,q0,r0⟩);obtain⟨A1,c1,e1,p1,q1,r1⟩:=hM.defs;have R1:=Hd (show fK uD 5 w (.slice A1 m.defs.length c1) m.defs from⟨A1,c1,rfl,p1,q1,r1⟩);obtain⟨A2,c2,e2,p2,q2,r2⟩:=hM.init;have R2:=Hd (show fK gB 4 w (.slice A2 m.init.length c2) m.init from⟨A2,c2,rfl,p2,q2,r2⟩);obtain⟨A3,c3,e3,p3,q3,r3⟩:=hM.bF;have R3:=Hd (show fK gB 4 w (.slice A3 m.bF.length c3) m.bF from⟨A3,c3,rfl,p3,q3,r3⟩);obtain⟨A4,c4,e4,p4,q4,r4⟩:=hM.next;have R4:=Hd (show fK uD 5 w (.slice A4 m.next.length c4) m.next from⟨A4,c4,rfl,p4,q4,r4⟩);obtain⟨A5,c5,e5,p5,q5,r5⟩:=hM.trans;have R5:=Hd (show fK gB 4 w (.slice A5 m.trans.length c5) m.trans from⟨A5,c5,rfl,p5,q5,r5⟩);obtain⟨A6,c6,e6,p6,q6,r6⟩:=hM.fair;have R6:=Hd (show fK gB 4 w (.slice A6 m.fair.length c6) m.fair from⟨A6,c6,rfl,p6,q6,r6⟩);obtain⟨A7,c7,e7,p7,q7,r7⟩:=hM.specs;have R7:=Hd (show fK Fw 7 w (.slice A7 m.specs.length c7) m.specs from⟨A7,c7,rfl,p7,q7,r7⟩);rw[e0,e1,e2,e3,e4,e5,e6,e7];obtain⟨n0,N0⟩:=ak m.vars.length;rw[←N0]at R0 p0⊢;unfold maxLen at q0
 obtain⟨n1,N1⟩:=ak m.defs.length;rw[←N1]at R1 p1⊢;unfold maxLen at q1;obtain⟨n2,N2⟩:=ak m.init.length;rw[←N2]at R2 p2⊢;unfold maxLen at q2;obtain⟨n3,N3⟩:=ak m.bF.length;rw[←N3]at R3 p3⊢;unfold maxLen at q3;obtain⟨n4,N4⟩:=ak m.next.length;rw[←N4]at R4 p4⊢;unfold maxLen at q4;obtain⟨n5,N5⟩:=ak m.trans.length;rw[←N5]at R5 p5⊢;unfold maxLen at q5;obtain⟨n6,N6⟩:=ak m.fair.length;rw[←N6]at R6 p6⊢;unfold maxLen at q6;obtain⟨n7,N7⟩:=ak m.specs.length;rw[←N7]at R7 p7⊢;unfold maxLen at q7;clear hM e0 e1 e2 e3 e4 e5 e6 e7 r0 r1 r2 r3 r4 r5 r6 r7;obtain⟨S0,hS0⟩:=aj (rJ mM m.vars ([],0));obtain⟨S1,hS1⟩:=aj (rJ (pQ kW) m.defs S0);obtain⟨S2,hS2⟩:=aj (rJ (xM iA) m.init S1);obtain⟨S3,hS3⟩:=aj (rJ (xM eZ) m.bF S2);obtain⟨S4,hS4⟩:=aj (rJ (pQ fE) m.next S3);obtain⟨S5,hS5⟩:=aj (rJ (xM fP) m.trans S4);obtain⟨S6,hS6⟩:=aj (rJ (xM jL) m.fair S5);obtain⟨S7,hS7⟩:=aj (rJ Kl m.specs S6);have hraw:I4 m=S7:=by unfold I4;rw[←hS0,←hS1,←hS2,←hS3,←hS4,←hS5,←hS6,←hS7]
 have hsh:kg m=if S7.2≠0 then([],S7.2)else if 65536<S7.1.length then([],4)else(S7.1,0):=by unfold kg;rw[hraw]
 rw[hsh]at HF;clear hsh hraw;obtain⟨B,hB⟩:=aj w.heap.size;obtain⟨b,hb⟩:=aj (B+1);obtain⟨w1,hw1⟩:=aj (w.alloc (.cells #[.slice A0 n0 c0,.slice A1 n1 c1,.slice A2 n2 c2,.slice A3 n3 c3,.slice A4 n4 c4,.slice A5 n5 c5,.slice A6 n6 c6,.slice A7 n7 c7] 28));obtain⟨w2,hw2⟩:=aj (w1.alloc (.cells #[.pointer none,.slice none 0 0,.int .i64 0] 83));have hb1:=dz hw1;have hb2:=dz hw2;have hs1:=sAl hw1;have HXa:=jZ hw1 hB;have HX:=kX hb2 HXa
 have hfr:Wr B b [] 0 w2:=by
  rw[hw2,hb,hB,←hs1];exact Wr.fresh w1 (by omega)
 have HB2:Hid (Below B w w2):=by
  have h:=hb1.trans (hb2.mono (by omega));rw[←hB]at h;exact h
 have hBb:B≠b:=by omega
 have oU:=Hd (show B≤w2.heap.size by have:=hb2.size;omega);have HT:=Hd hT;have HXA:=Hd hX;have afU:=Hd hNm;have HW1:=Hd hw1;have HW2:=Hd hw2;have qY:=Hd hB;have Ot:=Hd hb;have zM:=AO B b [] 0 n0 w2 hfr;obtain⟨y,hy⟩:=aj (wO 0 n0);have OG:y=0→n0≤64:=fun h=>KQ (hy.symm.trans h);rw[DN,←N0,←hy]at hS0;rw[←hy]at zM;have HM:=Hd zM;have abG:=Hd OG;have JO:=Hd hS0;have fA:=Hd hS1;have HS2:=Hd hS2;have Oc:=Hd hS3;have zQ:=Hd hS4;have HS5:=Hd hS5;have HS6:=Hd hS6;have HS7:=Hd hS7;have HX0:=HX;clear HXa hT hX hNm hw1 hw2 hb1 hb2 hs1 hB hb zM hy OG hfr hS0 hS1 hS2 hS3 hS4 hS5 hS6 hS7;obtain⟨v0,v1,v2,v3,v4,v5,v6,v7,-⟩:=ER HX;have hBlt:=lH HX;go_in;go_wp2_with fail;rw[←HW1];(try go_wp2_with fail);rw[←HW2,←qY,←Ot];refine HM.mono ?_;rintro e w3 ⟨rfl,hg⟩;clear v0 v1 v2 v3 v4 v5 v6 v7 hBlt;replace HX:=SH hg.2 HX hBb;obtain⟨v0,v1,v2,v3,v4,v5,v6,v7,-⟩:=ER HX;have hBlt:=lH HX;have HG:=Hd hg;clear hg HM;go_wp2_with fail;have kP:Hid (∀W,KB B b w2 W→W.heap[B]?=some (.cells #[.slice A0 n0 c0,.slice A1 n1 c1,.slice A2 n2 c2,.slice A3 n3 c3,.slice A4 n4 c4,.slice A5 n5 c5,.slice A6 n6 c6,.slice A7 n7 c7] 28 (0,0))):=fun W hk=>(SH hk HX0 hBb).out;clear HX0
 go_loopw [22] (fun si wr=>∃(k:Nat)(l1:Bs)(x1:Int),k≤n0∧si=.int .i64 k∧WG B b l1 x1 w2 wr∧wN mM (m.vars.drop k) (l1,x1)=S0∧l1.length≤70000*k∧l1.length≤4480000∧(x1=0→n0≤64)) (fun i _=>n0-(intOf i).toNat)
 case atStart=>exact⟨0,[],y,zl _,rfl,HG,JO.symm,zl _,zl _,abG⟩
 case round=>
  obtain⟨k,l1,x1,hk,rfl,hg,hrest,hl1,hl2,h64⟩:=hrel;clear v0 v1 v2 v3 v4 v5 v6 v7 hBlt abG JO;replace HX:Hid (wr.heap[B]?=some (.cells #[.slice A0 n0 c0,.slice A1 n1 c1,.slice A2 n2 c2,.slice A3 n3 c3,.slice A4 n4 c4,.slice A5 n5 c5,.slice A6 n6 c6,.slice A7 n7 c7] 28 (0,0))):=kP wr hg.2;obtain⟨c2,f2,hlt⟩:=wr2 hg.1;replace HG:=Hd hg;have bE:=Hd hrest;have QW:=Hd hl1;have HL2:=Hd hl2;have VQ:=Hd h64;clear hg hrest hl1 hl2 h64
  by_cases hkn:k<n0
  ·obtain⟨q,hq⟩:∃q,m.vars[k]?=some q:=⟨_,gG (by have:=N0.out;omega)⟩;obtain⟨A',c',he,-,-,hrow⟩:=R0.out
   injection he with he1 hen he2
   clear hen;subst he1 he2
   rcases hrow with h9|⟨g,o,rfl,hgl,hrow⟩
   ·rw[h9]at hq;simp at hq
   have hbw:Below w.heap.size w wr:=by rw[←qY];exact HB2.trans HG.2.below
   have hgr:g<wr.heap.size:=lL hgl hbw.size;obtain⟨y0,y1,y2,y3⟩:=GN.below hbw _ _ _ hgl (hrow k q hq);have hnm:=afU.vars q (mG hq);have HE:=Hd (bE.symm.trans (DR hq));have hk0:(0:Int)≤(k:Int):=by omega
   have hk1:(k:Int)<(n0:Int):=by omega
   have hne:g≠wr.heap.size:=by omega
   have hbn:b≠wr.heap.size:=by omega
   have hTr:=HT.below hbw;obtain⟨nm,bo,lo,hh⟩:=q;simp only at y0 y1 y2 y3 hnm;obtain⟨w5,HW5⟩:=ak (wr.alloc (.cells #[.string nm,.bool bo,.int .i64 lo,.int .i64 hh] 45));obtain⟨z,HZ⟩:=ak wr.heap.size;have hbz:=dz HW5;have HXV:=jZ HW5 HZ;have HG5:=Hd (HG.below hbz oU);have HT5:=Hd (hTr.below hbz);have xR:=Hd hnm;clear hq hrow hgl hbw hbz hTr hnm
   by_cases hx:x1=0
   ·subst hx;have GR:=Hd (VQ rfl);clear VQ;have hvar:=abE B b l1 ⟨nm,bo,lo,hh⟩ w5 HG5.1 (Nat.le_trans oU HG5.2.below.size) xR HT5 (by have:=HL2.out;omega);have HVL:=Hd (adq (l:=l1) (v:=⟨nm,bo,lo,hh⟩));obtain⟨st,hst⟩:=aj (mK (l1,0) (mM ⟨nm,bo,lo,hh⟩));rw[←hst]at hvar HE HVL;have HV:=Hd hvar;clear hvar hst;have h00:((0:Int)==0)=true:=rfl;go_wp2_with fail;rw[←HW5]
    try rw[←HZ]
    (try go_wp2_with fail);refine HV.mono ?_;rintro e w6 ⟨rfl,hg6⟩;have HG6:=Hd (HG5.trans hg6);clear hg6 y0 y1 y2 y3 HV;go_wp2_with fail
    go_round
    case rel=>exact⟨k+1,st.1,st.2,by omega,by go_num,HG6,HE.symm,Nat.le_trans HVL (by have:=QW.out;omega),Nat.le_trans HVL (by have:=QW.out;have:=GR.out;omega),fun _=>GR⟩
    case measure=>simp[intOf];omega
   ·have hb:(x1==0)=false:=by simpa using hx
    have hst:wN mM (m.vars.drop (k+1)) (l1,x1)=S0:=by
     rw[sW hx,←bE,sW hx]
    have HST:=Hd hst;clear hx hst;go_wp2_with fail;rw[←HW5];try go_wp2_with fail
    go_round
    case rel=>exact⟨k+1,l1,x1,by omega,by go_num,HG5,HST,by have:=QW.out;omega,HL2,VQ⟩
    case measure=>simp[intOf];omega
  ·have hkn':k=n0:=by omega
   subst hkn';have hS:S0=(l1,x1):=by rw[←bE,N0,List.drop_length];rfl
   have ahp:Hid (S0.1.length≤4480000):=by rw[hS];exact HL2
   replace HG:Hid (WG B b S0.1 S0.2 w2 wr):=by rw[hS];exact HG
   have hlt2:¬(k:Int)<(k:Int):=by omega
   clear hS bE QW HL2 VQ c2 f2 hlt;obtain⟨v0,v1,v2,v3,v4,v5,v6,v7,-⟩:=ER HX;have hBlt:=lH HX
   have hc:Calls Tryz.prog 25 #[.pointer (some ⟨b,0,none⟩),.string ⟨#[100,101,102]⟩,.slice A1 n1 c1] wr fun r w'=>r=.returned (.tuple #[])∧WG B b S1.1 S1.2 wr w'∧S1.1.length≤S0.1.length+4480000:=by
    have h:=Mq B b S0.1 S0.2 ⟨#[100,101,102]⟩ m.defs A1 c1 w wr qY (HB2.trans HG.2.below) HG.1 (by rw[←N1];exact R1) ⟨HXA.defs,afU.defs⟩ HT (by have:=ahp.out;omega) (by decide);rw[←N1]at h;rw[fA];exact h
   have HC:=Hd hc;clear hc;go_wp2_with fail;refine HC.mono ?_;rintro e wn ⟨rfl,hg,hlen⟩;clear v0 v1 v2 v3 v4 v5 v6 v7 hBlt;replace HX:=SH hg.2 HX hBb;replace HG:=Hd (HG.trans hg);have ahq:Hid (S1.1.length≤8960000):=by have:=ahp.out;show S1.1.length≤_;omega
   clear hg hlen HC ahp fA wr;rename World=>wr;obtain⟨v0,v1,v2,v3,v4,v5,v6,v7,-⟩:=ER HX;have hBlt:=lH HX
   have hc:Calls Tryz.prog 26 #[.pointer (some ⟨b,0,none⟩),.string ⟨#[105,110,105,116]⟩,.slice A2 n2 c2] wr fun r w'=>r=.returned (.tuple #[])∧WG B b S2.1 S2.2 wr w'∧S2.1.length≤S1.1.length+4480000:=by
    have h:=yE B b S1.1 S1.2 ⟨#[105,110,105,116]⟩ m.init A2 c2 w wr qY (HB2.trans HG.2.below) HG.1 (by rw[←N2];exact R2) HXA.init HT (by have:=ahq.out;omega) (by decide);rw[←N2]at h;rw[HS2];exact h
   have HC:=Hd hc;clear hc;go_wp2_with fail;refine HC.mono ?_;rintro e wn ⟨rfl,hg,hlen⟩;clear v0 v1 v2 v3 v4 v5 v6 v7 hBlt;replace HX:=SH hg.2 HX hBb;replace HG:=Hd (HG.trans hg);have ahr:Hid (S2.1.length≤13440000):=by have:=ahq.out;show S2.1.length≤_;omega
   clear hg hlen HC ahq HS2 wr;rename World=>wr;obtain⟨v0,v1,v2,v3,v4,v5,v6,v7,-⟩:=ER HX;have hBlt:=lH HX
   have hc:Calls Tryz.prog 26 #[.pointer (some ⟨b,0,none⟩),.string ⟨#[105,110,118,97,114]⟩,.slice A3 n3 c3] wr fun r w'=>r=.returned (.tuple #[])∧WG B b S3.1 S3.2 wr w'∧S3.1.length≤S2.1.length+4480000:=by
    have h:=yE B b S2.1 S2.2 ⟨#[105,110,118,97,114]⟩ m.bF A3 c3 w wr qY (HB2.trans HG.2.below) HG.1 (by rw[←N3];exact R3) HXA.bF HT (by have:=ahr.out;omega) (by decide);rw[←N3]at h;rw[Oc];exact h
   have HC:=Hd hc;clear hc;go_wp2_with fail;refine HC.mono ?_;rintro e wn ⟨rfl,hg,hlen⟩;clear v0 v1 v2 v3 v4 v5 v6 v7 hBlt;replace HX:=SH hg.2 HX hBb;replace HG:=Hd (HG.trans hg);have ahs:Hid (S3.1.length≤17920000):=by have:=ahr.out;show S3.1.length≤_;omega
   clear hg hlen HC ahr Oc wr;rename World=>wr;obtain⟨v0,v1,v2,v3,v4,v5,v6,v7,-⟩:=ER HX;have hBlt:=lH HX
   have hc:Calls Tryz.prog 25 #[.pointer (some ⟨b,0,none⟩),.string ⟨#[110,101,120,116]⟩,.slice A4 n4 c4] wr fun r w'=>r=.returned (.tuple #[])∧WG B b S4.1 S4.2 wr w'∧S4.1.length≤S3.1.length+4480000:=by
    have h:=Mq B b S3.1 S3.2 ⟨#[110,101,120,116]⟩ m.next A4 c4 w wr qY (HB2.trans HG.2.below) HG.1 (by rw[←N4];exact R4) ⟨HXA.next,afU.next⟩ HT (by have:=ahs.out;omega) (by decide);rw[←N4]at h;rw[zQ];exact h
   have HC:=Hd hc;clear hc;go_wp2_with fail;refine HC.mono ?_;rintro e wn ⟨rfl,hg,hlen⟩;clear v0 v1 v2 v3 v4 v5 v6 v7 hBlt;replace HX:=SH hg.2 HX hBb;replace HG:=Hd (HG.trans hg);have aht:Hid (S4.1.length≤22400000):=by have:=ahs.out;show S4.1.length≤_;omega
   clear hg hlen HC ahs zQ wr;rename World=>wr;obtain⟨v0,v1,v2,v3,v4,v5,v6,v7,-⟩:=ER HX;have hBlt:=lH HX
   have hc:Calls Tryz.prog 26 #[.pointer (some ⟨b,0,none⟩),.string ⟨#[116,114,97,110,115]⟩,.slice A5 n5 c5] wr fun r w'=>r=.returned (.tuple #[])∧WG B b S5.1 S5.2 wr w'∧S5.1.length≤S4.1.length+4480000:=by
    have h:=yE B b S4.1 S4.2 ⟨#[116,114,97,110,115]⟩ m.trans A5 c5 w wr qY (HB2.trans HG.2.below) HG.1 (by rw[←N5];exact R5) HXA.trans HT (by have:=aht.out;omega) (by decide);rw[←N5]at h;rw[HS5];exact h
   have HC:=Hd hc;clear hc;go_wp2_with fail;refine HC.mono ?_;rintro e wn ⟨rfl,hg,hlen⟩;clear v0 v1 v2 v3 v4 v5 v6 v7 hBlt;replace HX:=SH hg.2 HX hBb;replace HG:=Hd (HG.trans hg);have ahu:Hid (S5.1.length≤26880000):=by have:=aht.out;show S5.1.length≤_;omega
   clear hg hlen HC aht HS5 wr;rename World=>wr;obtain⟨v0,v1,v2,v3,v4,v5,v6,v7,-⟩:=ER HX;have hBlt:=lH HX
   have hc:Calls Tryz.prog 26 #[.pointer (some ⟨b,0,none⟩),.string ⟨#[102,97,105,114]⟩,.slice A6 n6 c6] wr fun r w'=>r=.returned (.tuple #[])∧WG B b S6.1 S6.2 wr w'∧S6.1.length≤S5.1.length+4480000:=by
    have h:=yE B b S5.1 S5.2 ⟨#[102,97,105,114]⟩ m.fair A6 c6 w wr qY (HB2.trans HG.2.below) HG.1 (by rw[←N6];exact R6) HXA.fair HT (by have:=ahu.out;omega) (by decide);rw[←N6]at h;rw[HS6];exact h
   have HC:=Hd hc;clear hc;go_wp2_with fail;refine HC.mono ?_;rintro e wn ⟨rfl,hg,hlen⟩;clear v0 v1 v2 v3 v4 v5 v6 v7 hBlt;replace HX:=SH hg.2 HX hBb;replace HG:=Hd (HG.trans hg);have ai6:Hid (S6.1.length≤31360000):=by have:=ahu.out;show S6.1.length≤_;omega
   clear hg hlen HC ahu HS6 wr;rename World=>wr;obtain⟨v0,v1,v2,v3,v4,v5,v6,v7,-⟩:=ER HX;have hBlt:=lH HX;have W_:=AO B b S6.1 S6.2 n7 wr HG.1;obtain⟨y7,hy7⟩:=aj (wO S6.2 n7);have ag1:Hid (y7=0→n7≤64):=fun h=>KQ (hy7.symm.trans h);have hS7:S7=wN Kl m.specs (S6.1,y7):=by rw[HS7,hy7,N7];exact DN Kl m.specs S6.1 S6.2
   rw[←hy7]at W_;have HM7:=Hd W_;clear HS7;have HS7:=Hd hS7;clear W_ hy7 hS7;go_wp2_with fail;refine HM7.mono ?_;rintro e wn ⟨rfl,hg⟩;clear v0 v1 v2 v3 v4 v5 v6 v7 hBlt;replace HX:=SH hg.2 HX hBb;replace HG:=Hd (HG.trans hg);clear hg HM7 wr;rename World=>wr;obtain⟨v0,v1,v2,v3,v4,v5,v6,v7,-⟩:=ER HX;have hBlt:=lH HX;go_wp2_with fail
   go_loopw [67] (fun si ws=>∃(k:Nat)(l1:Bs)(x1:Int),k≤n7∧k≤64∧si=.int .i64 k∧WG B b l1 x1 w2 ws∧wN Kl (m.specs.drop k) (l1,x1)=S7∧l1.length≤40000000+70000*k∧(x1=0→n7≤64)) (fun i _=>n7-(intOf i).toNat)
   case atStart=>exact⟨0,S6.1,y7,zl _,zl _,rfl,HG,HS7.symm,by have:=ai6.out;omega,ag1⟩
   case round=>
    obtain⟨k,l1,x1,hk,ai5,rfl,hg,hrest,hl1,h64⟩:=hrel;rename World=>ws;clear v0 v1 v2 v3 v4 v5 v6 v7 hBlt ag1 HS7 HG HX ai6;obtain⟨c2,f2,hlt⟩:=wr2 hg.1;have HG:=Hd hg;have bE:=Hd hrest;have QW:=Hd hl1;have VQ:=Hd h64;clear hg hrest hl1 h64
    by_cases hkn:k<n7
    ·obtain⟨q,hq⟩:∃q,m.specs[k]?=some q:=⟨_,gG (by have:=N7.out;omega)⟩;obtain⟨A',c',he,-,-,hrow⟩:=R7.out
     injection he with he1 hen he2
     clear hen;subst he1 he2
     rcases hrow with h9|⟨g,o,rfl,hgl,hrow⟩
     ·rw[h9]at hq;simp at hq
     have hbw:Below w.heap.size w ws:=by rw[←qY];exact HB2.trans HG.2.below
     have hgr:g<ws.heap.size:=lL hgl hbw.size;obtain⟨y0,ha2⟩:=Fw.below hbw _ _ _ hgl (hrow k q hq);have hnm:=afU.specs q (mG hq);have ai7:=(hrow k q hq).2;obtain⟨z0,z1,z2,z3,A9,c9,A8,c8,z4,z5,hfv⟩:=ai7.open;clear ha2 ai7;have hy:=fun(o:Nat)(v:Value)(h:w.cell? ⟨g,o,none⟩=some v)=>(hbw.cell (p:=⟨g,o,none⟩) hgl).trans h;have y1:=hy _ _ z0;have y2:=hy _ _ z1;have y3:=hy _ _ z2;have y4:=hy _ _ z3;have y5:=hy _ _ z4;have y6:=hy _ _ z5;rw[show o+k*7+1+1=o+k*7+2 from rfl]at y2;rw[show o+k*7+1+2=o+k*7+3 from rfl]at y3;rw[show o+k*7+1+3=o+k*7+4 from rfl]at y4;rw[show o+k*7+1+4=o+k*7+5 from rfl]at y5;rw[show o+k*7+1+5=o+k*7+6 from rfl]at y6;have HE:=Hd (bE.symm.trans (DR hq));have hk0:(0:Int)≤(k:Int):=by omega
     have hk1:(k:Int)<(n7:Int):=by omega
     have hne:g≠ws.heap.size:=by omega
     have hbn:b≠ws.heap.size:=by omega
     have hTr:=HT.below hbw;have hxf:=HXA.specs q (mG hq);clear z0 z1 z2 z3 z4 z5 hy;obtain⟨nm,fm⟩:=q;simp only at y0 y1 y2 y3 y4 y5 y6 hnm hxf hfv;obtain⟨n9,hn9⟩:=aj fm.tm.kids.length;obtain⟨n8,hn8⟩:=aj fm.kids.length;rw[←hn9]at y5;rw[←hn8]at y6;obtain⟨w5,gH⟩:=aj (ws.alloc (.cells #[.string nm,.int .i64 fm.op,.int .i64 fm.tm.op,.int .i64 fm.tm.num,.string fm.tm.name,.slice A9 n9 c9,.slice A8 n8 c8] 69));obtain⟨z,hz⟩:=aj ws.heap.size;have hzb:z≠b:=by omega
     have hbz:=dz gH;have HXV:=jZ gH hz;have HW5:=Hd gH;have HZ:=Hd hz;have HG5:=Hd (HG.below hbz oU);have HT5:=Hd (hTr.below hbz);have xR:=Hd hnm;have HFV:=Hd hfv;have HXF:=Hd hxf;have HN9:=Hd hn9;have HN8:=Hd hn8;clear hq hrow hbw gH hz hbz hTr hnm hfv hxf hn9 hn8
     by_cases hx:x1=0
     ·subst hx;have GR:=Hd (VQ rfl);clear VQ;obtain⟨e0,ru⟩:=ak (qc 0 nm);have WY:=Fv B b l1 0 nm w5 HG5.1 xR HT5;rw[←ru]at WY;have HNC:=Hd WY;clear WY;have h00:((0:Int) != 0)=false:=rfl;go_wp2_with fail;rw[←HW5]
      try rw[←HZ]
      (try go_wp2_with fail);refine HNC.mono ?_;rintro e w6 ⟨rfl,hg6⟩;have Pq:=SH hg6.2 HXV hzb;have HG6:=Hd (HG5.trans hg6);clear hg6 HNC y0 y1 y2 y3 y4 y5 y6 c2 f2 hlt;obtain⟨c2,f2,hlt⟩:=wr2 HG6.1;obtain⟨v0,v1,v2,v3,v4,v5,v6,-⟩:=q7w Pq;have hl6:=lH Pq
      by_cases hy0:e0=0
      ·obtain⟨S,hS⟩:∃S:ByteArray,S=⟨(dX fm).1.toArray⟩:=⟨_,rfl⟩;obtain⟨e1,he1⟩:=aj (dX fm).2;have hsl:S.size≤65536:=by rw[hS];exact abH fm
       have hadd:=afT (l:=l1) (s:=nm) (f:=fm) (ru.symm.trans hy0);rw[←hS,←he1]at hadd;have hnl:nm.size≤24:=Pp (ru.symm.trans hy0);have hb6:Below w.heap.size w w6:=by rw[←qY];exact HB2.trans HG6.2.below
       have hsh:=HXF A9 c9 A8 c8 w6 (HFV.below hb6 rfl) (HT.below hb6);unfold Fm.val at hsh;rw[←HN9,←HN8,←hS,←he1]at hsh;have HSH:=Hd hsh;have WU:=Hd hadd;have HSL:=Hd hsl;have HNL:=Hd hnl;subst hy0;clear hS he1 hsl hadd hnl hb6 hsh;have h01:((0:Int)==0)=true:=rfl;go_wp2_with fail;refine HSH.mono ?_;rintro e w7 ⟨rfl,iY⟩;have Ep:=HG6.below iY oU;have hfa:=oh B b l1 0 e1 w7 Ep.1;rw[show yD 0 e1=e1 from rfl]at hfa;have vN:=Hd hfa;have HG7:=Hd Ep;clear iY Ep hfa HSH v0 v1 v2 v3 v4 v5 v6 hl6 c2 f2 hlt;go_wp2_with fail;refine vN.mono ?_;rintro e w8 ⟨rfl,hg8⟩;have hg8:=HG7.trans hg8;obtain⟨z9,hz9⟩:=aj w8.heap.size;obtain⟨w9,mE⟩:=aj (w8.alloc (.cells (I6 [⟨#[115,112,101,99]⟩,nm,⟨#[58]⟩,S]) 9));have Ub:=dz mE;have HZ9:=jZ mE hz9;have hg9:=hg8.below Ub oU;have hln:Calls Tryz.prog 30 #[.pointer (some ⟨b,0,none⟩),.slice (some ⟨z9,0,none⟩) 4 4] w9 _:=wP B b z9 l1 e1 [⟨#[115,112,101,99]⟩,nm,⟨#[58]⟩,S] w9 hg9.1 HZ9 (by simp) (fun h=>by rw[AQ];have:=HSL.out;have:=QW.out;have:=HNL.out;show _+(4+nm.size+1+S.size+6)≤_;omega) (Nat.le_trans oU hg9.2.below.size);have QV:=Hd hln;have HW9:=Hd mE;have HZQ:=Hd hz9;have HG9:=Hd hg9;clear hz9 mE Ub hg9 hln hg8 vN;go_wp2_with fail
       show Calls _ _ #[_,.slice (some ⟨w8.heap.size,0,none⟩) 4 4] (w8.alloc (.cells (I6 [⟨#[115,112,101,99]⟩,nm,⟨#[58]⟩,S]) 9)) _;rw[←HW9,←HZQ];refine QV.mono ?_;rintro e wa ⟨rfl,hga⟩;have tX:=Hd (HG9.trans hga);clear hga QV;go_wp2_with fail
       go_round
       case rel=>exact⟨k+1,_,_,by omega,by have:=GR.out;omega,by go_num,tX,by rw[←WU];exact HE.symm,Nat.le_trans (Po (by decide) (fun _=>HNL) (by decide) HSL QW) (Nat.le_of_eq (by rw[Nat.mul_succ,Nat.add_assoc])),fun _=>GR⟩
       case measure=>simp[intOf];omega
      ·have hadd:=adp (l:=l1) (s:=nm) (f:=fm) (fun h=>hy0 (ru.trans h));rw[←ru]at hadd;have WU:=Hd hadd;have hb:(e0==0)=false:=by simpa using hy0
       have HY0:=Hd hy0;clear hadd hy0;go_wp2_with fail
       go_round
       case rel=>exact⟨k+1,l1,e0,by omega,by have:=GR.out;omega,by go_num,HG6,by rw[←WU];exact HE.symm,by have:=QW.out;omega,fun h=>absurd h HY0⟩
       case measure=>simp[intOf];omega
     ·have HE7:=Hd (bE.symm.trans (sW hx));clear bE HE HG;have hb:(x1 != 0)=true:=by simpa using hx
      go_wp2_with fail;rw[←HW5];have HG:=HG5;have kH:=Hd (HB2.trans HG.2.below);obtain⟨c2,f2,hlt⟩:=wr2 HG.1;rw[HE7]at HF;have hb:(x1 != 0)=true:=by simpa using hx
      rw[iP hx]at HF;go_wp2_with fail
      go_quiet (fail)
      go_wp2_with fail;rw[HF];rw[qY]at kH;exact⟨rfl,QX kH _⟩
    ·have hkn':k=n7:=by omega
     subst hkn';have HE7:Hid (S7=(l1,x1)):=by show _=_;rw[←bE,N7,List.drop_length];rfl
     have hlt2:¬(k:Int)<(k:Int):=by omega
     clear bE QW VQ c2 f2 hlt;have kH:=Hd (HB2.trans HG.2.below);obtain⟨c2,f2,hlt⟩:=wr2 HG.1;rw[HE7]at HF
     by_cases hx:x1=0
     ·subst hx;have hb:((0:Int) != 0)=false:=rfl;rw[iN (fun h=>h rfl)]at HF;have QV:=Hd (adk B b l1 0 _ HG.1);have HST:=Hd (adl B b l1 0 _ HG.1)
      by_cases h6:65536<l1.length
      ·have h6':(65536:Int)<(l1.length:Int):=by omega
       rw[iP h6]at HF;go_wp2_with fail;refine QV.mono ?_;rintro e w9 ⟨rfl,mE⟩;rw[mE];clear mE;go_wp2_with fail;rw[HF];rw[qY]at kH;exact⟨rfl,kH⟩
      ·have h6':¬(65536:Int)<(l1.length:Int):=by omega
       rw[iN h6]at HF;go_wp2_with fail;refine QV.mono ?_;rintro e w9 ⟨rfl,mE⟩;rw[mE];clear mE;go_wp2_with fail;refine HST.mono ?_;rintro e w9 ⟨rfl,Ub⟩;have VT:=Hd (kH.trans Ub);clear Ub;go_wp2_with fail;rw[HF];rw[qY]at VT;exact⟨rfl,VT⟩
     ·have hb:(x1 != 0)=true:=by simpa using hx
      rw[iP hx]at HF;go_wp2_with fail
      go_quiet (fail)
      go_wp2_with fail;rw[HF];rw[qY]at kH;exact⟨rfl,QX kH _⟩
inductive El where
 |var (x:Vr)
 |defs (x:Df)
 |init (x:Tm)
 |bF (x:Tm)
 |next (x:Df)
 |trans (x:Tm)
 |fair (x:Tm)
 |spec (x:Sp)
def El.put(m:Md):El→Md
 |.var x=>{m with vars:=m.vars++[x]}
 |.defs x=>{m with defs:=m.defs++[x]}
 |.init x=>{m with init:=m.init++[x]}
 |.bF x=>{m with bF:=m.bF++[x]}
 |.next x=>{m with next:=m.next++[x]}
 |.trans x=>{m with trans:=m.trans++[x]}
 |.fair x=>{m with fair:=m.fair++[x]}
 |.spec x=>{m with specs:=m.specs++[x]}
def El.cnt(m:Md):El→Nat
 |.var _=>m.vars.length
 |.defs _=>m.defs.length
 |.init _=>m.init.length
 |.bF _=>m.bF.length
 |.next _=>m.next.length
 |.trans _=>m.trans.length
 |.fair _=>m.fair.length
 |.spec _=>m.specs.length
def Rs.map{α β:Type}(f:α→β)(r:Rs α):Rs β:=r.then fun x j=>.ok (f x) j
def elP(l:List Tok)(i:Nat):Rs El:=
 if ah l i 3 kV then(OD l (i+1)).map .var
 else if ah l i 3 kW then(Mi l (i+1)).map .defs
 else if ah l i 3 iA then(OE l (i+1)).map .init
 else if ah l i 3 eZ then(OE l (i+1)).map .bF
 else if ah l i 3 fE then(Mi l (i+1)).map .next
 else if ah l i 3 fP then(OE l (i+1)).map .trans
 else if ah l i 3 jL then(OE l (i+1)).map .fair
 else if ah l i 3 pI then(GL l (i+1)).map .spec
 else .bad i 16
theorem map_ok{α β:Type}{f:α→β}{r:Rs α}{y:β}{j:Nat}(h:r.map f=.ok y j):∃x,r=.ok x j∧y=f x:=by
 cases r with
 |bad i e=>cases h
 |ok x k=>cases h;exact⟨x,rfl,rfl⟩
theorem uE{α:Type}{n i j:Nat}{p:Nat→Rs α}{f:α→El}{g:α→Md}{e:El}(h:(p (i+1)).map f=.ok e j):∃x,p (i+1)=.ok x j∧e=f x∧((nP n p i).then fun x j=>(.ok (g x) j:Rs Md))=if 64≤n then .bad i 18 else .ok (g x) j:=by
 obtain⟨x,h1,h2⟩:=map_ok h;refine⟨x,h1,h2,?_⟩;unfold nP
 by_cases hn:64≤n
 ·rw[iP hn,iP hn];rfl
 ·rw[iN hn,iN hn,h1];rfl
theorem adr{l:List Tok}{m:Md}{i j:Nat}{e:El}(h:elP l i=.ok e j):rH l m i=if 64≤e.cnt m then .bad i 18 else .ok (e.put m) j:=by
 unfold elP at h;unfold rH
 by_cases c1:ah l i 3 kV=true
 ·rw[iP c1]at h⊢;obtain⟨x,-,rfl,hm⟩:=uE (n:=m.vars.length) (g:=fun x=>{m with vars:=m.vars++[x]}) h;exact hm
 rw[iN c1]at h⊢
 by_cases c2:ah l i 3 kW=true
 ·rw[iP c2]at h⊢;obtain⟨x,-,rfl,hm⟩:=uE (n:=m.defs.length) (g:=fun x=>{m with defs:=m.defs++[x]}) h;exact hm
 rw[iN c2]at h⊢
 by_cases c3:ah l i 3 iA=true
 ·rw[iP c3]at h⊢;obtain⟨x,-,rfl,hm⟩:=uE (n:=m.init.length) (g:=fun x=>{m with init:=m.init++[x]}) h;exact hm
 rw[iN c3]at h⊢
 by_cases c4:ah l i 3 eZ=true
 ·rw[iP c4]at h⊢;obtain⟨x,-,rfl,hm⟩:=uE (n:=m.bF.length) (g:=fun x=>{m with bF:=m.bF++[x]}) h;exact hm
 rw[iN c4]at h⊢
 by_cases c5:ah l i 3 fE=true
 ·rw[iP c5]at h⊢;obtain⟨x,-,rfl,hm⟩:=uE (n:=m.next.length) (g:=fun x=>{m with next:=m.next++[x]}) h;exact hm
 rw[iN c5]at h⊢
 by_cases c6:ah l i 3 fP=true
 ·rw[iP c6]at h⊢;obtain⟨x,-,rfl,hm⟩:=uE (n:=m.trans.length) (g:=fun x=>{m with trans:=m.trans++[x]}) h;exact hm
 rw[iN c6]at h⊢
 by_cases c7:ah l i 3 jL=true
 ·rw[iP c7]at h⊢;obtain⟨x,-,rfl,hm⟩:=uE (n:=m.fair.length) (g:=fun x=>{m with fair:=m.fair++[x]}) h;exact hm
 rw[iN c7]at h⊢
 by_cases c8:ah l i 3 pI=true
 ·rw[iP c8]at h⊢;obtain⟨x,-,rfl,hm⟩:=uE (n:=m.specs.length) (g:=fun x=>{m with specs:=m.specs++[x]}) h;exact hm
 rw[iN c8]at h;cases h
def kF(w:World)(R:Nat)(A:Option Addr)(n c i:Nat)(x:Int)(V:Nat→Value):Prop:=w.heap[R]?=some (.cells #[.slice A n c,.int .i64 (i:Nat),.int .i64 x,V 0,V 1,V 2,V 3,V 4,V 5,V 6,V 7] 53 (0,0))
section
variable {w w':World} {R n c i:Nat} {A:Option Addr} {x:Int} {V:Nat→Value}
theorem kF.c0(h:kF w R A n c i x V):w.cell? ⟨R,0,none⟩=some (.slice A n c):=pG h 0 rfl
theorem kF.c1(h:kF w R A n c i x V):w.cell? ⟨R,1,none⟩=some (.int .i64 (i:Nat)):=pG h 1 rfl
theorem kF.c2(h:kF w R A n c i x V):w.cell? ⟨R,2,none⟩=some (.int .i64 x):=pG h 2 rfl
theorem lt8{k:Nat}(hk:k<8):k=0∨k=1∨k=2∨k=3∨k=4∨k=5∨k=6∨k=7:=by omega
theorem kF.cm(h:kF w R A n c i x V){k:Nat}(hk:k<8):w.cell? ⟨R,3+k,none⟩=some (V k):=by
 rcases lt8 hk with rfl|rfl|rfl|rfl|rfl|rfl|rfl|rfl<;>exact pG h _ rfl
theorem kF.lt(h:kF w R A n c i x V):R<w.heap.size:=lH h
theorem kF.frozen(h:kF w R A n c i x V)(o:Nat):w.frozen? ⟨R,o,none⟩=false:=frz h o
theorem kF.below{B:Nat}(h:kF w R A n c i x V)(hb:Below B w w')(hB:R<B):kF w' R A n c i x V:=(hb.block R hB).trans h
theorem kF.at_(h:kF w R A n c i x V)(j:Nat):kF (w.setCell ⟨R,1,none⟩ (.int .i64 (j:Nat))) R A n c j x V:=by
 unfold kF at h⊢;simp[World.setCell,Array.getElem?_modify,h]
theorem kF.wrong(h:kF w R A n c i x V)(y:Int):kF (w.setCell ⟨R,2,none⟩ (.int .i64 y)) R A n c i y V:=by
 unfold kF at h⊢;simp[World.setCell,Array.getElem?_modify,h]
theorem kF.put(h:kF w R A n c i x V){k:Nat}(hk:k<8)(v:Value):kF (w.setCell ⟨R,3+k,none⟩ v) R A n c i x (fun j=>if j=k then v else V j):=by
 unfold kF at h⊢
 rcases lt8 hk with rfl|rfl|rfl|rfl|rfl|rfl|rfl|rfl<;>simp[World.setCell,Array.getElem?_modify,h]
theorem kF.drewN(h:kF w R A n c i x V)(m:Nat):kF (w.drewN m) R A n c i x V:=h
end
def Ct(R:Nat)(A:Option Addr)(n c:Nat)(V:Nat→Value)(j:Nat)(x:Int)(w w':World):Prop:=kF w' R A n c j x V∧Only (fun q=>q=R) w w'∧w'.heap.size=w.heap.size
section
variable {w w' w'':World} {R n c i j m:Nat} {A:Option Addr} {x y:Int} {V:Nat→Value}
theorem ng(h:kF w R A n c i x V):Ct R A n c V i x w (w.drewN m):=⟨h,(Only.refl (F:=fun q=>q=R)).drewN m,rfl⟩
theorem Ct.drewN(h:Ct R A n c V j x w w')(m:Nat):Ct R A n c V j x w (w'.drewN m):=⟨h.1.drewN m,h.2.1.drewN m,h.2.2⟩
theorem Ct.at_(h:Ct R A n c V i x w w')(j:Nat):Ct R A n c V j x w (w'.setCell ⟨R,1,none⟩ (.int .i64 (j:Nat))):=⟨h.1.at_ j,h.2.1.bq rfl _,by simpa using h.2.2⟩
theorem Ct.next(h:Ct R A n c V i x w w'):Ct R A n c V (i+1) x w (w'.setCell ⟨R,1,none⟩ (.int .i64 ((i:Int)+1))):=by
 have h:=h.at_ (i+1);rw[show((i+1:Nat):Int)=(i:Int)+1 from by omega]at h;exact h
theorem Ct.wrong(h:Ct R A n c V i x w w')(y:Int):Ct R A n c V i y w (w'.setCell ⟨R,2,none⟩ (.int .i64 y)):=⟨h.1.wrong y,h.2.1.bq rfl _,by simpa using h.2.2⟩
theorem Ct.trans(h:Ct R A n c V i x w w')(h2:Ct R A n c V j y w' w''):Ct R A n c V j y w w'':=⟨h2.1,h.2.1.trans h2.2.1,h2.2.2.trans h.2.2⟩
end
def bO(l:List Tok)(k:Int)(s:Bs)(i:Nat)(x:Int):Nat×Int:=if x≠0 then(i,x)else if ah l i k s then(i+1,0)else(i,16)
def bX(l:List Tok)(i:Nat)(x:Int):ByteArray×Nat×Int:=if x≠0 then(⟨#[]⟩,i,x)else if jd l i 2 then(⟨(pJ l i).toArray⟩,i+1,0)else(⟨#[]⟩,i,16)
def BD(l:List Tok)(i:Nat):Nat:=if ah l i 4 [45]then i+1 else i
def I8(l:List Tok)(i:Nat)(x:Int):Int×Nat×Int:=if x≠0 then(0,i,x)else if jd l (BD l i) 1 then(if ah l i 4 [45]then-rC l (BD l i)else rC l (BD l i),BD l i+1,0)else(0,BD l i,16)
theorem afV(R:Nat)(A:Option Addr)(c i:Nat)(l:List Tok)(x:Int)(V:Nat→Value)(k:Int)(s:ByteArray)(w:World)(hR:kF w R A l.length c i x V)(hP:iI w R A c l)(hi:i≤1000000) :
 Calls Tryz.prog 120 #[.pointer (some ⟨R,0,none⟩),.int .i64 k,.string s] w fun e w'=>e=.returned (.bool (ah l i k (bs s)))∧∃n,w'=w.drewN n:=by
 obtain⟨n,HN⟩:=ak l.length;rw[←HN]at hR;have c0:=hR.c0;have c1:=hR.c1;have hlen:=hP.len;have hcap:=hP.cap;have aQ:=hP.bU;unfold maxLen at aQ;rw[←HN]at hlen hcap;have fC:=hR.lt;obtain⟨r,hr⟩:=aj (ah l i k (bs s));rw[←hr];unfold ah at hr;have HR:=Hd hr;have HP:=Hd hP;clear hr hP hR
 by_cases hlt:i<n
 ·obtain⟨t,ht⟩:∃t,l[i]?=some t:=⟨_,gG (by have:=HN.out;omega)⟩
  rcases HP.toks with h0|⟨b,off,rfl,hb,hc⟩
  ·rw[h0]at ht;simp at ht
  have x0:=hc i t ht 0 (by omega);have x2:=hc i t ht 2 (by omega);simp only[fZ,Nat.add_zero]at x0 x2;have HR2:Hid (r=(decide (t.kind=k)&&decide (t.text=bs s))):=by show _=_;rw[HR,ht]
  have hk0:(0:Int)≤(i:Int):=by omega
  have hk1:(i:Int)<(n:Int):=by omega
  clear ht hc hlt
  by_cases hk:t.kind=k
  ·have hkb:(t.kind==k)=true:=by simpa using hk
   have HR3:Hid (r=decide (t.text=bs s)):=by show _=_;rw[HR2,decide_eq_true hk];rfl
   have hs:((⟨t.text.toArray⟩:ByteArray).toList==s.toList)=decide (t.text=bs s):=by rw[vY];rfl
   obtain⟨T,hT⟩:∃T:ByteArray,T=⟨t.text.toArray⟩:=⟨_,rfl⟩;rw[←hT]at x2 hs;rw[←HR3]at hs;clear hk hT;cases r
   all_goals
    go_in;go_wp2_with fail
    go_quiet (fail)
    go_wp2
    go_ret;exact⟨rfl,_,rfl⟩
  ·have hkb:(t.kind==k)=false:=by simpa using hk
   have HR3:Hid (r=false):=by show _=_;rw[HR2,dF hk];rfl
   clear hk;go_in;go_wp2_with fail
   go_quiet (fail)
   go_wp2
   go_ret;rw[HR3];exact⟨rfl,_,rfl⟩
 ·have HR3:Hid (r=false):=by show _=_;rw[HR,List.getElem?_eq_none (by have:=HN.out;omega)]
  have hk1:¬(i:Int)<(n:Int):=by omega
  have hd:decide ((i:Int)<(n:Int))=false:=dF hk1;have hd2:decide (i<n)=false:=dF hlt;clear hlt;go_in;go_wp2_with fail
  go_quiet (fail)
  go_wp2
  go_ret;rw[HR3];exact⟨rfl,_,rfl⟩
theorem DT(R:Nat)(A:Option Addr)(c i:Nat)(l:List Tok)(x:Int)(V:Nat→Value)(k:Int)(s:ByteArray)(w:World)(hR:kF w R A l.length c i x V)(hP:iI w R A c l)(hi:i≤1000000) :
 Calls Tryz.prog 79 #[.pointer (some ⟨R,0,none⟩),.int .i64 k,.string s] w fun e w'=>e=.returned (.bool (ah l i k (bs s)))∧Ct R A l.length c V (if ah l i k (bs s)then i+1 else i) x w w':=by
 have his:=afV R A c i l x V k s w hR hP hi;have fC:=hR.lt;obtain⟨r,hr⟩:=aj (ah l i k (bs s));rw[←hr]at his⊢;obtain⟨F,HF⟩:=ak (fun(e:Ending)(w':World)=>e=.returned (.bool r)∧Ct R A l.length c V (if r then i+1 else i) x w w');rw[←HF];have HIS:=Hd his;have HR:=Hd hR;clear his hR hP hr;cases r
 all_goals
  go_in;go_wp2_with fail;refine HIS.mono ?_;rintro e w' ⟨rfl,m,hw⟩;rw[hw];have c1:=(HR.drewN m).c1;have f1:=(HR.drewN m).frozen 1;have hlt2:R<(w.drewN m).heap.size:=fC;clear hw;go_wp2_with fail;rw[HF]
  first
   |exact⟨rfl,ng HR⟩
   |exact⟨rfl,(ng HR).next⟩
theorem qK(R:Nat)(A:Option Addr)(n c i:Nat)(x y:Int)(V:Nat→Value)(w:World)(hR:kF w R A n c i x V) :
 Calls Tryz.prog 45 #[.pointer (some ⟨R,0,none⟩),.int .i64 y] w fun e w'=>e=.returned (.tuple #[])∧Ct R A n c V i (if x=0 then y else x) w w':=by
 have c2:=hR.c2;have f2:=hR.frozen 2;have fC:=hR.lt;obtain⟨F,HF⟩:=ak (fun(e:Ending)(w':World)=>e=.returned (.tuple #[])∧Ct R A n c V i (if x=0 then y else x) w w');rw[←HF];have HR:=Hd hR;clear hR
 by_cases hx:x=0
 ·have HX:=Hd hx;have hb:(x==0)=true:=by simpa using hx
  clear hx;go_in;go_wp2_with fail;refine bR (v:=.tuple #[]) (results_none rfl _ _ _) rfl ?_;rw[HF,iP HX.out];exact⟨rfl,(ng (m:=0) HR).wrong y⟩
 ·have HX:=Hd hx;have hb:(x==0)=false:=by simpa using hx
  clear hx;go_in;go_wp2_with fail;refine bR (v:=.tuple #[]) (results_none rfl _ _ _) rfl ?_;rw[HF,iN HX.out];exact⟨rfl,ng (m:=0) HR⟩
theorem DU(R:Nat)(A:Option Addr)(c i:Nat)(l:List Tok)(x:Int)(V:Nat→Value)(k:Int)(s:ByteArray)(w:World)(hR:kF w R A l.length c i x V)(hP:iI w R A c l)(hi:x=0→i≤1000000) :
 Calls Tryz.prog 38 #[.pointer (some ⟨R,0,none⟩),.int .i64 k,.string s] w fun e w'=>e=.returned (.tuple #[])∧Ct R A l.length c V (bO l k (bs s) i x).1 (bO l k (bs s) i x).2 w w':=by
 have c2:=hR.c2;have fC:=hR.lt;obtain⟨F,HF⟩:=ak (fun(e:Ending)(w':World)=>e=.returned (.tuple #[])∧Ct R A l.length c V (bO l k (bs s) i x).1 (bO l k (bs s) i x).2 w w');rw[←HF];have HR:=Hd hR;unfold bO at HF
 by_cases hx:x=0
 ·subst hx;have lM:=DT R A c i l 0 V k s w hR hP (hi rfl);rw[iN (fun h=>h rfl)]at HF;have vN:=Hd (fun(w':World)(h:kF w' R A l.length c i 0 V)=>qK R A l.length c i 0 16 V w' h);obtain⟨r,hr⟩:=aj (ah l i k (bs s));rw[←hr]at lM HF;have Uc:=Hd lM;clear lM hr hR hP;cases r
  ·go_in;go_wp2_with fail;refine Uc.mono ?_;rintro e w' ⟨rfl,hg⟩;have HG:=Hd hg;clear hg;go_wp2_with fail;refine(vN w' HG.1).mono ?_;rintro e w2 ⟨rfl,hg⟩;have HG2:=Hd (HG.trans hg);clear hg;go_wp2_with fail;refine bR (v:=.tuple #[]) (results_none rfl _ _ _) rfl ?_;rw[HF];exact⟨rfl,HG2⟩
  ·go_in;go_wp2_with fail;refine Uc.mono ?_;rintro e w' ⟨rfl,hg⟩;have HG:=Hd hg;clear hg;go_wp2_with fail;refine bR (v:=.tuple #[]) (results_none rfl _ _ _) rfl ?_;rw[HF];exact⟨rfl,HG⟩
 ·have hb:(x==0)=false:=by simpa using hx
  rw[iP hx]at HF;clear hx hR hP;go_in;go_wp2_with fail;refine bR (v:=.tuple #[]) (results_none rfl _ _ _) rfl ?_;rw[HF];exact⟨rfl,ng (m:=0) HR⟩
theorem qL(R:Nat)(A:Option Addr)(n c i m:Nat)(V:Nat→Value)(w:World)(hR:kF w R A n c i 0 V)(hi:i≤1000000)(hm:m≤1000000) :
 Calls Tryz.prog 39 #[.pointer (some ⟨R,0,none⟩),.int .i64 (m:Nat)] w fun e w'=>e=.returned (.bool (decide (m<64)))∧Ct R A n c V (if m<64 then i+1 else i) (if m<64 then 0 else 18) w w':=by
 have c1:=hR.c1;have f1:=hR.frozen 1;have fC:=hR.lt;obtain⟨F,HF⟩:=ak (fun(e:Ending)(w':World)=>e=.returned (.bool (decide (m<64)))∧Ct R A n c V (if m<64 then i+1 else i) (if m<64 then 0 else 18) w w');rw[←HF];have HR:=Hd hR
 by_cases hx:m<64
 ·rw[iP hx,iP hx,decide_eq_true hx]at HF;have hx1:¬(64:Int)≤(m:Int):=by omega
  clear hx hR;go_in;go_wp2_with fail;rw[HF];exact⟨rfl,(ng (m:=0) HR).next⟩
 ·rw[iN hx,iN hx,dF hx]at HF;have hx1:(64:Int)≤(m:Int):=by omega
  have vN:=Hd (qK R A n c i 0 18 V w hR);clear hx hR;go_in;go_wp2_with fail;refine vN.mono ?_;rintro e w' ⟨rfl,hg⟩;have HG:=Hd hg;clear hg;go_wp2_with fail;rw[HF];exact⟨rfl,HG⟩
end Go.Proofs.YtkhoeoilamddaaaGreatDoor
