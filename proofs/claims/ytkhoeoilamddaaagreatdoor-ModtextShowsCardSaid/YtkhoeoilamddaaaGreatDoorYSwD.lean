/- Walks and plain words: SwD SwE. -/
import Derived.Test.YtkhoeoilamddaaaGreatDoorYSwA
import Derived.Test.YtkhoeoilamddaaaGreatDoorYMwL
import Derived.Test.YtkhoeoilamddaaaGreatDoorYMsB
namespace Go.Proofs.YtkhoeoilamddaaaGreatDoor
open Go.RowKit
set_option linter.unusedVariables false
set_option maxRecDepth 100000
set_option maxHeartbeats 16000000
structure amL(m:Md):Prop where
 defs:∀d∈m.defs,amE d.tm
 init:∀t∈m.init,amE t
 bF:∀t∈m.bF,amE t
 next:∀d∈m.next,amE d.tm
 trans:∀t∈m.trans,amE t
 fair:∀t∈m.fair,amE t
 specs:∀s∈m.specs,amT s.fm
theorem amW{l:Bs}{x:BE}(h:x.1.length≤70000):(mK (l,0) x).1.length≤l.length+70000:=by
 unfold mK;rw[iN (fun h=>h rfl)]
 split
 ·show l.length≤_;omega
 ·show(l++_).length≤_;rw[List.length_append];omega
theorem amH{α:Type}{f:α→BE}(hf:∀x,(f x).1.length≤70000):∀(l:List α)(st:BE),(wN f l st).1.length≤st.1.length+70000*l.length
 |[],st=>by show st.1.length≤_;omega
 |x::r,st=>by
  show(wN f r (mK st (f x))).1.length≤_;have h:=amH hf r (mK st (f x))
  have h2:(mK st (f x)).1.length≤st.1.length+70000:=by
   obtain⟨a,b⟩:=st
   by_cases hb:b=0
   ·subst hb;exact amW (hf x)
   ·unfold mK;rw[iP hb];omega
  rw[List.length_cons];omega
theorem amq{α:Type}{f:α→BE}(hf:∀x,(f x).1.length≤70000)(l:List α)(st:BE):(rJ f l st).1.length≤st.1.length+4480000:=by
 obtain⟨a,b⟩:=st;unfold rJ
 by_cases h:b=0∧64<l.length
 ·rw[iP h,sW (by decide)];show a.length≤a.length+4480000;omega
 ·rw[iN h];have h2:=amH hf l (a,b);show _≤a.length+4480000
  by_cases h0:b=0
  ·simp only at h2;omega
  ·rw[sW h0];show a.length≤_;omega
theorem amm{α:Type}{f:α→BE}{l:List α}{st:BE}(h:st.2≠0):rJ f l st=st:=by
 unfold rJ;rw[iN (fun h9=>h h9.1)];obtain⟨a,b⟩:=st;exact sW h
theorem amF{w:Bs}(hw:w.length≤10)(t:Tm):(xM w t).1.length≤70000:=by
 unfold xM;have:=og t
 split
 ·simp
 ·simp only[AJ,List.length_append,List.length_cons,List.length_nil];omega
theorem amR{w:Bs}(hw:w.length≤10)(d:Df):(pQ w d).1.length≤70000:=by
 unfold pQ;have:=og d.tm
 split
 ·simp
 ·rename_i hn
  have h2:isName d.name.data.toList=true:=by cases h:isName d.name.data.toList<;>simp_all
  have h3:d.name.data.toList.length≤24:=AP h2
  split
  ·simp
  ·simp only[AJ,List.length_append,List.length_cons,List.length_nil];omega
theorem am2(d:Sp):(Kl d).1.length≤70000:=by
 unfold Kl;have:=abH d.fm
 split
 ·simp
 ·rename_i hn
  have h2:isName d.name.data.toList=true:=by cases h:isName d.name.data.toList<;>simp_all
  have h3:d.name.data.toList.length≤24:=AP h2
  split
  ·simp
  ·simp only[pI,AJ,List.length_append,List.length_cons,List.length_nil];omega
theorem amY(v:Vr):(mM v).1.length≤70000:=by
 have h:=adq (l:=[]) (v:=v)
 by_cases h0:(mM v).2=0
 ·unfold mK at h;rw[iN (fun h=>h rfl),iN (fun h9=>h9 h0)]at h
  simpa using h
 ·unfold mM at h0⊢
  split
  ·simp
  ·rename_i h1
   rw[iN h1]at h0
   split
   ·rename_i h2
    rw[iP h2]at h0
    split
    ·simp
    ·rename_i h3;rw[iN h3]at h0;exact absurd rfl h0
   ·rename_i h2
    rw[iN h2]at h0
    split
    ·simp
    ·rename_i h3;rw[iN h3]at h0;exact absurd rfl h0
structure SwS(w:World)(B b:Nat)(cs:Array Value)(R:BE)(S:ByteArray)(W:World):Prop where
 mW:Below B w W
 md:W.heap[B]?=some (.cells cs 28 (0,0))
 bx:W.heap[b]?=some (.cells #[.string S,.int .i64 R.2] 95 (0,0))
 tx:R.2=0→bs S=R.1
 ne:B<b
theorem SwS.step{w W W':World}{B b:Nat}{cs:Array Value}{R R':BE}{S S':ByteArray}(h:SwS w B b cs R S W)(hb:Below W.heap.size W W')(ht:R'.2=0→bs S'=R'.1) :
 SwS w B b cs R' S' ((W'.setCell ⟨b,0,none⟩ (.string S')).setCell ⟨b,1,none⟩ (.int .i64 R'.2)):=by
 have hne:=h.ne;have hk:∀q o,W.heap[q]?=some o→W'.heap[q]?=some o:=fun q o hq=>(hb.block q (ltH hq)).trans hq;refine⟨?_,?_,amO (hk b _ h.bx),ht,hne⟩
 ·have h2:=h.mW.trans (hb.mono (by have:=ltH h.md;omega));exact(h2.setCell (p:=⟨b,0,none⟩) (by show B≤b;omega) _).setCell (p:=⟨b,1,none⟩) (by show B≤b;omega) _
 ·rw[amS (by omega)];exact hk B _ h.md
theorem amM(V:Nat→Value)(m:Md)(w:World)(hM:Km w V m)(hX:amL m)(hI:RIs)(hTx:RTx)(hNm:WZ m) :
 Calls Tryz.prog 13 #[.agg #[V 0,V 1,V 2,V 3,V 4,V 5,V 6,V 7]] w fun r w'=>r=.returned (.tuple #[.string ⟨(kg m).1.toArray⟩,.int .i64 (kg m).2])∧Below w.heap.size w w':=by
 obtain⟨F,HF⟩:=ak (fun(r:Ending)(w':World)=>r=.returned (.tuple #[.string ⟨(kg m).1.toArray⟩,.int .i64 (kg m).2])∧Below w.heap.size w w');rw[←HF];obtain⟨A0,c0,e0,p0,q0,r0⟩:=hM.vars;have R0:Hid (∀W,Below w.heap.size w W→fK GN 4 W (.slice A0 m.vars.length c0) m.vars):=fun W hb=>fK.below ⟨A0,c0,rfl,p0,q0,r0⟩ (GN.below hb) hb.size;obtain⟨A1,c1,e1,p1,q1,r1⟩:=hM.defs;have R1:Hid (∀W,Below w.heap.size w W→fK uD 5 W (.slice A1 m.defs.length c1) m.defs):=fun W hb=>fK.below ⟨A1,c1,rfl,p1,q1,r1⟩ (uD.below hb) hb.size;obtain⟨A2,c2,e2,p2,q2,r2⟩:=hM.init;have R2:Hid (∀W,Below w.heap.size w W→fK gB 4 W (.slice A2 m.init.length c2) m.init):=fun W hb=>fK.below ⟨A2,c2,rfl,p2,q2,r2⟩ (fun g o x hg=>gB.below hb rfl hg) hb.size;obtain⟨A3,c3,e3,p3,q3,r3⟩:=hM.bF;have R3:Hid (∀W,Below w.heap.size w W→fK gB 4 W (.slice A3 m.bF.length c3) m.bF):=fun W hb=>fK.below ⟨A3,c3,rfl,p3,q3,r3⟩ (fun g o x hg=>gB.below hb rfl hg) hb.size;obtain⟨A4,c4,e4,p4,q4,r4⟩:=hM.next;have R4:Hid (∀W,Below w.heap.size w W→fK uD 5 W (.slice A4 m.next.length c4) m.next):=fun W hb=>fK.below ⟨A4,c4,rfl,p4,q4,r4⟩ (uD.below hb) hb.size;obtain⟨A5,c5,e5,p5,q5,r5⟩:=hM.trans
 have R5:Hid (∀W,Below w.heap.size w W→fK gB 4 W (.slice A5 m.trans.length c5) m.trans):=fun W hb=>fK.below ⟨A5,c5,rfl,p5,q5,r5⟩ (fun g o x hg=>gB.below hb rfl hg) hb.size;obtain⟨A6,c6,e6,p6,q6,r6⟩:=hM.fair;have R6:Hid (∀W,Below w.heap.size w W→fK gB 4 W (.slice A6 m.fair.length c6) m.fair):=fun W hb=>fK.below ⟨A6,c6,rfl,p6,q6,r6⟩ (fun g o x hg=>gB.below hb rfl hg) hb.size;obtain⟨A7,c7,e7,p7,q7,r7⟩:=hM.specs;have R7:Hid (∀W,Below w.heap.size w W→fK Fw 7 W (.slice A7 m.specs.length c7) m.specs):=fun W hb=>fK.below ⟨A7,c7,rfl,p7,q7,r7⟩ (Fw.below hb) hb.size;rw[e0,e1,e2,e3,e4,e5,e6,e7];obtain⟨n0,N0⟩:=ak m.vars.length;obtain⟨n1,N1⟩:=ak m.defs.length;obtain⟨n2,N2⟩:=ak m.init.length;obtain⟨n3,N3⟩:=ak m.bF.length;obtain⟨n4,N4⟩:=ak m.next.length;obtain⟨n5,N5⟩:=ak m.trans.length;obtain⟨n6,N6⟩:=ak m.fair.length;obtain⟨n7,N7⟩:=ak m.specs.length;rw[←N0,←N1,←N2,←N3,←N4,←N5,←N6,←N7];clear hM e0 e1 e2 e3 e4 e5 e6 e7 p0 q0 r0 p1 q1 r1 p2 q2 r2 p3 q3 r3 p4 q4 r4 p5 q5 r5 p6 q6 r6 p7 q7 r7;obtain⟨S0,hS0⟩:=aj (rJ mM m.vars ([],0));obtain⟨S1,hS1⟩:=aj (rJ (pQ kW) m.defs S0);obtain⟨S2,hS2⟩:=aj (rJ (xM iA) m.init S1);obtain⟨S3,hS3⟩:=aj (rJ (xM eZ) m.bF S2);obtain⟨S4,hS4⟩:=aj (rJ (pQ fE) m.next S3);obtain⟨S5,hS5⟩:=aj (rJ (xM fP) m.trans S4)
 obtain⟨S6,hS6⟩:=aj (rJ (xM jL) m.fair S5);obtain⟨S7,hS7⟩:=aj (rJ Kl m.specs S6);have L0:S0.1.length≤4480000:=by have h:=amq (f:=mM) amY m.vars ([],0);rw[←hS0]at h;simpa using h
 have L1:S1.1.length≤8960000:=by have h:=amq (f:=(pQ kW)) (amR (by decide)) m.defs S0;rw[←hS1]at h;omega
 have L2:S2.1.length≤13440000:=by have h:=amq (f:=(xM iA)) (amF (by decide)) m.init S1;rw[←hS2]at h;omega
 have L3:S3.1.length≤17920000:=by have h:=amq (f:=(xM eZ)) (amF (by decide)) m.bF S2;rw[←hS3]at h;omega
 have L4:S4.1.length≤22400000:=by have h:=amq (f:=(pQ fE)) (amR (by decide)) m.next S3;rw[←hS4]at h;omega
 have L5:S5.1.length≤26880000:=by have h:=amq (f:=(xM fP)) (amF (by decide)) m.trans S4;rw[←hS5]at h;omega
 have L6:S6.1.length≤31360000:=by have h:=amq (f:=(xM jL)) (amF (by decide)) m.fair S5;rw[←hS6]at h;omega
 have L7:S7.1.length≤35840000:=by have h:=amq (f:=Kl) am2 m.specs S6;rw[←hS7]at h;omega
 have hraw:I4 m=S7:=by unfold I4;rw[←hS0,←hS1,←hS2,←hS3,←hS4,←hS5,←hS6,←hS7]
 have hsh:kg m=if S7.2≠0 then([],S7.2)else if 65536<S7.1.length then([],4)else(S7.1,0):=by unfold kg;rw[hraw]
 rw[hsh]at HF;clear hsh hraw;have T7:Hid (S7.2≠0→S7=S7):=fun _=>rfl;have T6:Hid (S6.2≠0→S7=S6):=fun h=>(T7 (by rw[hS7,amm h];exact h)).trans (by rw[hS7,amm h]);have T5:Hid (S5.2≠0→S7=S5):=fun h=>(T6 (by rw[hS6,amm h];exact h)).trans (by rw[hS6,amm h]);have T4:Hid (S4.2≠0→S7=S4):=fun h=>(T5 (by rw[hS5,amm h];exact h)).trans (by rw[hS5,amm h]);have T3:Hid (S3.2≠0→S7=S3):=fun h=>(T4 (by rw[hS4,amm h];exact h)).trans (by rw[hS4,amm h]);have T2:Hid (S2.2≠0→S7=S2):=fun h=>(T3 (by rw[hS3,amm h];exact h)).trans (by rw[hS3,amm h]);have T1:Hid (S1.2≠0→S7=S1):=fun h=>(T2 (by rw[hS2,amm h];exact h)).trans (by rw[hS2,amm h]);have T0:Hid (S0.2≠0→S7=S0):=fun h=>(T1 (by rw[hS1,amm h];exact h)).trans (by rw[hS1,amm h]);obtain⟨B,qY⟩:=ak w.heap.size;obtain⟨w1,HW1⟩:=ak (w.alloc (.cells #[.slice A0 n0 c0,.slice A1 n1 c1,.slice A2 n2 c2,.slice A3 n3 c3,.slice A4 n4 c4,.slice A5 n5 c5,.slice A6 n6 c6,.slice A7 n7 c7] 28));have hb1:=dz HW1;have HX0:=jZ HW1 qY;have HB1:Hid (Below B w w1):=by rw[qY];exact hb1
 have HXA:=Hd hX;have HIS:=Hd hI;have CF:=Hd hTx;have xR:=Hd hNm
 have hC0:Calls Tryz.prog 33 #[.slice A0 n0 c0] w1 (TXQ S0 w1):=by
  rw[hS0,N0];exact amK m.vars A0 c0 w1 (R0 w1 hb1) hI hTx hNm.vars
 have HC0:=Hd hC0
 have HC1:Hid (∀(S:ByteArray) W,Below w.heap.size w W→S0.2=0→bs S=S0.1→Calls Tryz.prog 34 #[.string S,.string ⟨#[100,101,102]⟩,.slice A1 n1 c1] W (TXQ S1 W)):=fun S W hb h0 hs=>by
  have h:=amA S ⟨#[100,101,102]⟩ m.defs A1 c1 W (R1 W hb) hI hNm.defs hX.defs (by rw[←aC,hs];omega) (by decide);have e:(bs S,(0:Int))=S0:=by rw[hs];exact Prod.ext rfl h0.symm
  rw[N1,hS1,←e];exact h
 have Cx:Hid (∀(S:ByteArray) W,Below w.heap.size w W→S1.2=0→bs S=S1.1→Calls Tryz.prog 35 #[.string S,.string ⟨#[105,110,105,116]⟩,.slice A2 n2 c2] W (TXQ S2 W)):=fun S W hb h0 hs=>by
  have h:=amr S ⟨#[105,110,105,116]⟩ m.init A2 c2 W (R2 W hb) hX.init (by rw[←aC,hs];omega) (by decide);have e:(bs S,(0:Int))=S1:=by rw[hs];exact Prod.ext rfl h0.symm
  rw[N2,hS2,←e];exact h
 have HC3:Hid (∀(S:ByteArray) W,Below w.heap.size w W→S2.2=0→bs S=S2.1→Calls Tryz.prog 35 #[.string S,.string ⟨#[105,110,118,97,114]⟩,.slice A3 n3 c3] W (TXQ S3 W)):=fun S W hb h0 hs=>by
  have h:=amr S ⟨#[105,110,118,97,114]⟩ m.bF A3 c3 W (R3 W hb) hX.bF (by rw[←aC,hs];omega) (by decide);have e:(bs S,(0:Int))=S2:=by rw[hs];exact Prod.ext rfl h0.symm
  rw[N3,hS3,←e];exact h
 have HC4:Hid (∀(S:ByteArray) W,Below w.heap.size w W→S3.2=0→bs S=S3.1→Calls Tryz.prog 34 #[.string S,.string ⟨#[110,101,120,116]⟩,.slice A4 n4 c4] W (TXQ S4 W)):=fun S W hb h0 hs=>by
  have h:=amA S ⟨#[110,101,120,116]⟩ m.next A4 c4 W (R4 W hb) hI hNm.next hX.next (by rw[←aC,hs];omega) (by decide);have e:(bs S,(0:Int))=S3:=by rw[hs];exact Prod.ext rfl h0.symm
  rw[N4,hS4,←e];exact h
 have HC5:Hid (∀(S:ByteArray) W,Below w.heap.size w W→S4.2=0→bs S=S4.1→Calls Tryz.prog 35 #[.string S,.string ⟨#[116,114,97,110,115]⟩,.slice A5 n5 c5] W (TXQ S5 W)):=fun S W hb h0 hs=>by
  have h:=amr S ⟨#[116,114,97,110,115]⟩ m.trans A5 c5 W (R5 W hb) hX.trans (by rw[←aC,hs];omega) (by decide);have e:(bs S,(0:Int))=S4:=by rw[hs];exact Prod.ext rfl h0.symm
  rw[N5,hS5,←e];exact h
 have HC6:Hid (∀(S:ByteArray) W,Below w.heap.size w W→S5.2=0→bs S=S5.1→Calls Tryz.prog 35 #[.string S,.string ⟨#[102,97,105,114]⟩,.slice A6 n6 c6] W (TXQ S6 W)):=fun S W hb h0 hs=>by
  have h:=amr S ⟨#[102,97,105,114]⟩ m.fair A6 c6 W (R6 W hb) hX.fair (by rw[←aC,hs];omega) (by decide);have e:(bs S,(0:Int))=S5:=by rw[hs];exact Prod.ext rfl h0.symm
  rw[N6,hS6,←e];exact h
 have HC7:Hid (∀(S:ByteArray) W,Below w.heap.size w W→S6.2=0→bs S=S6.1→Calls Tryz.prog 36 #[.string S,.slice A7 n7 c7] W (TXQ S7 W)):=fun S W hb h0 hs=>by
  have h:=amG S m.specs A7 c7 W (R7 W hb) hI hNm.specs hX.specs (by rw[←aC,hs];omega);have e:(bs S,(0:Int))=S6:=by rw[hs];exact Prod.ext rfl h0.symm
  rw[N7,hS7,←e];exact h
 have HL0:=Hd L0;have QW:=Hd L1;have HL2:=Hd L2;have HL3:=Hd L3;have HL4:=Hd L4;have HL5:=Hd L5;have HL6:=Hd L6;have HL7:=Hd L7;clear L0 hS0 N0 R0 L1 hS1 N1 R1 L2 hS2 N2 R2 L3 hS3 N3 R3 L4 hS4 N4 R4 L5 hS5 N5 R5 L6 hS6 N6 R6 L7 hS7 N7 R7 hX hI hTx hNm hb1 hC0;have z0:=pG HX0 0 rfl;go_in;go_wp2_with fail;rw[←HW1]
 try rw[←qY]
 (try go_wp2_with fail);refine HC0.mono ?_;rintro e w2 ⟨U0,rfl,ht,hb2⟩;have hsz:=hb2.size;obtain⟨w3,hw3⟩:=aj (w2.alloc (.cells #[.string U0,.int .i64 S0.2] 95));obtain⟨b,hb⟩:=aj w2.heap.size
 have hs0:SwS w B b #[.slice A0 n0 c0,.slice A1 n1 c1,.slice A2 n2 c2,.slice A3 n3 c3,.slice A4 n4 c4,.slice A5 n5 c5,.slice A6 n6 c6,.slice A7 n7 c7] S0 U0 w3:=by
  have h0:=ltH HX0;have h1:Below B w w2:=HB1.trans (hb2.mono (by omega));refine⟨by rw[hw3];exact h1.alloc (by omega) _,?_,(jZ hw3 hb).out,ht,by omega⟩;rw[((dz hw3).block B (by omega)),hb2.block B h0];exact HX0
 have HS:=Hd hs0;have HW3:=Hd hw3;have am_:=Hd hb;clear ht hb2 hsz hw3 hb hs0 z0 HC0 HX0 HB1
 go_upto_if 10 with fail
 rw[←HW3,←am_];have z1:=pG HS.bx 1 rfl
 by_cases he:S0.2=0
 case neg=>
  have oU:Hid (∀n,Below w.heap.size w (w3.drewN n)):=fun n=>by rw[←qY];exact QX HS.mW n
  have hb0:(S0.2==0)=false:=by simpa using he
  have hb1:(S0.2 != 0)=true:=by simpa using he
  have HE:=Hd he;clear he;go_wp2_with fail
  try go_quiet (fail)
  (try go_wp2_with fail);rw[HF];have e:=T0 HE;exact⟨by rw[e,iP HE.out];rfl,oU _⟩
 have hb0:(S0.2==0)=true:=by simpa using he
 have hc:=HC1 U0 w3 (by rw[←qY];exact HS.mW) he (HS.tx he);have HC:=Hd hc;have z0:=pG HS.bx 0 rfl;have m0:=pG HS.md 1 rfl;clear hc he HC1 HL0 T0;go_wp2_with fail;refine HC.mono ?_;rintro e y1 ⟨U1,rfl,ht,hb2⟩;have hst:=HS.step hb2 ht;have X9:=kX hb2 (Hd HS.bx);have f0:=pG X9 0 rfl;have f1:=pG X9 1 rfl;have f2:=frz X9;clear hb2 ht z0 z1 m0 hb0 HS HC
 go_upto_if 18 with fail
 obtain⟨x1,hx1⟩:=aj ((y1.setCell ⟨b,0,none⟩ (.string U1)).setCell ⟨b,1,none⟩ (.int .i64 S1.2));rw[←hx1]at hst⊢;have HS:=Hd hst;clear f0 f1 f2 X9 hst hx1;have z1:=pG HS.bx 1 rfl
 by_cases he:S1.2=0
 case neg=>
  have oU:Hid (∀n,Below w.heap.size w (x1.drewN n)):=fun n=>by rw[←qY];exact QX HS.mW n
  have hb0:(S1.2==0)=false:=by simpa using he
  have hb1:(S1.2 != 0)=true:=by simpa using he
  have HE:=Hd he;clear he;go_wp2_with fail
  try go_quiet (fail)
  (try go_wp2_with fail);rw[HF];have e:=T1 HE;exact⟨by rw[e,iP HE.out];rfl,oU _⟩
 have hb0:(S1.2==0)=true:=by simpa using he
 have hc:=Cx U1 x1 (by rw[←qY];exact HS.mW) he (HS.tx he);have HC:=Hd hc;have z0:=pG HS.bx 0 rfl;have m0:=pG HS.md 2 rfl;clear hc he Cx QW T1;go_wp2_with fail;refine HC.mono ?_;rintro e y2 ⟨U2,rfl,ht,hb2⟩;have hst:=HS.step hb2 ht;have X9:=kX hb2 (Hd HS.bx);have f0:=pG X9 0 rfl;have f1:=pG X9 1 rfl;have f2:=frz X9;clear hb2 ht z0 z1 m0 hb0 HS HC
 go_upto_if 26 with fail
 obtain⟨x2,hx2⟩:=aj ((y2.setCell ⟨b,0,none⟩ (.string U2)).setCell ⟨b,1,none⟩ (.int .i64 S2.2));rw[←hx2]at hst⊢;have HS:=Hd hst;clear f0 f1 f2 X9 hst hx2;have z1:=pG HS.bx 1 rfl
 by_cases he:S2.2=0
 case neg=>
  have oU:Hid (∀n,Below w.heap.size w (x2.drewN n)):=fun n=>by rw[←qY];exact QX HS.mW n
  have hb0:(S2.2==0)=false:=by simpa using he
  have hb1:(S2.2 != 0)=true:=by simpa using he
  have HE:=Hd he;clear he;go_wp2_with fail
  try go_quiet (fail)
  (try go_wp2_with fail);rw[HF];have e:=T2 HE;exact⟨by rw[e,iP HE.out];rfl,oU _⟩
 have hb0:(S2.2==0)=true:=by simpa using he
 have hc:=HC3 U2 x2 (by rw[←qY];exact HS.mW) he (HS.tx he);have HC:=Hd hc;have z0:=pG HS.bx 0 rfl;have m0:=pG HS.md 3 rfl;clear hc he HC3 HL2 T2;go_wp2_with fail;refine HC.mono ?_;rintro e y3 ⟨U3,rfl,ht,hb2⟩;have hst:=HS.step hb2 ht;have X9:=kX hb2 (Hd HS.bx);have f0:=pG X9 0 rfl;have f1:=pG X9 1 rfl;have f2:=frz X9;clear hb2 ht z0 z1 m0 hb0 HS HC
 go_upto_if 34 with fail
 obtain⟨x3,hx3⟩:=aj ((y3.setCell ⟨b,0,none⟩ (.string U3)).setCell ⟨b,1,none⟩ (.int .i64 S3.2));rw[←hx3]at hst⊢;have HS:=Hd hst;clear f0 f1 f2 X9 hst hx3;have z1:=pG HS.bx 1 rfl
 by_cases he:S3.2=0
 case neg=>
  have oU:Hid (∀n,Below w.heap.size w (x3.drewN n)):=fun n=>by rw[←qY];exact QX HS.mW n
  have hb0:(S3.2==0)=false:=by simpa using he
  have hb1:(S3.2 != 0)=true:=by simpa using he
  have HE:=Hd he;clear he;go_wp2_with fail
  try go_quiet (fail)
  (try go_wp2_with fail);rw[HF];have e:=T3 HE;exact⟨by rw[e,iP HE.out];rfl,oU _⟩
 have hb0:(S3.2==0)=true:=by simpa using he
 have hc:=HC4 U3 x3 (by rw[←qY];exact HS.mW) he (HS.tx he);have HC:=Hd hc;have z0:=pG HS.bx 0 rfl;have m0:=pG HS.md 4 rfl;clear hc he HC4 HL3 T3;go_wp2_with fail;refine HC.mono ?_;rintro e y4 ⟨U4,rfl,ht,hb2⟩;have hst:=HS.step hb2 ht;have X9:=kX hb2 (Hd HS.bx);have f0:=pG X9 0 rfl;have f1:=pG X9 1 rfl;have f2:=frz X9;clear hb2 ht z0 z1 m0 hb0 HS HC
 go_upto_if 42 with fail
 obtain⟨x4,hx4⟩:=aj ((y4.setCell ⟨b,0,none⟩ (.string U4)).setCell ⟨b,1,none⟩ (.int .i64 S4.2));rw[←hx4]at hst⊢;have HS:=Hd hst;clear f0 f1 f2 X9 hst hx4;have z1:=pG HS.bx 1 rfl
 by_cases he:S4.2=0
 case neg=>
  have oU:Hid (∀n,Below w.heap.size w (x4.drewN n)):=fun n=>by rw[←qY];exact QX HS.mW n
  have hb0:(S4.2==0)=false:=by simpa using he
  have hb1:(S4.2 != 0)=true:=by simpa using he
  have HE:=Hd he;clear he;go_wp2_with fail
  try go_quiet (fail)
  (try go_wp2_with fail);rw[HF];have e:=T4 HE;exact⟨by rw[e,iP HE.out];rfl,oU _⟩
 have hb0:(S4.2==0)=true:=by simpa using he
 have hc:=HC5 U4 x4 (by rw[←qY];exact HS.mW) he (HS.tx he);have HC:=Hd hc;have z0:=pG HS.bx 0 rfl;have m0:=pG HS.md 5 rfl;clear hc he HC5 HL4 T4;go_wp2_with fail;refine HC.mono ?_;rintro e y5 ⟨U5,rfl,ht,hb2⟩;have hst:=HS.step hb2 ht;have X9:=kX hb2 (Hd HS.bx);have f0:=pG X9 0 rfl;have f1:=pG X9 1 rfl;have f2:=frz X9;clear hb2 ht z0 z1 m0 hb0 HS HC
 go_upto_if 50 with fail
 obtain⟨x5,hx5⟩:=aj ((y5.setCell ⟨b,0,none⟩ (.string U5)).setCell ⟨b,1,none⟩ (.int .i64 S5.2));rw[←hx5]at hst⊢;have HS:=Hd hst;clear f0 f1 f2 X9 hst hx5;have z1:=pG HS.bx 1 rfl
 by_cases he:S5.2=0
 case neg=>
  have oU:Hid (∀n,Below w.heap.size w (x5.drewN n)):=fun n=>by rw[←qY];exact QX HS.mW n
  have hb0:(S5.2==0)=false:=by simpa using he
  have hb1:(S5.2 != 0)=true:=by simpa using he
  have HE:=Hd he;clear he;go_wp2_with fail
  try go_quiet (fail)
  (try go_wp2_with fail);rw[HF];have e:=T5 HE;exact⟨by rw[e,iP HE.out];rfl,oU _⟩
 have hb0:(S5.2==0)=true:=by simpa using he
 have hc:=HC6 U5 x5 (by rw[←qY];exact HS.mW) he (HS.tx he);have HC:=Hd hc;have z0:=pG HS.bx 0 rfl;have m0:=pG HS.md 6 rfl;clear hc he HC6 HL5 T5;go_wp2_with fail;refine HC.mono ?_;rintro e y6 ⟨U6,rfl,ht,hb2⟩;have hst:=HS.step hb2 ht;have X9:=kX hb2 (Hd HS.bx);have f0:=pG X9 0 rfl;have f1:=pG X9 1 rfl;have f2:=frz X9;clear hb2 ht z0 z1 m0 hb0 HS HC
 go_upto_if 58 with fail
 obtain⟨x6,hx6⟩:=aj ((y6.setCell ⟨b,0,none⟩ (.string U6)).setCell ⟨b,1,none⟩ (.int .i64 S6.2));rw[←hx6]at hst⊢;have HS:=Hd hst;clear f0 f1 f2 X9 hst hx6;have z1:=pG HS.bx 1 rfl
 by_cases he:S6.2=0
 case neg=>
  have oU:Hid (∀n,Below w.heap.size w (x6.drewN n)):=fun n=>by rw[←qY];exact QX HS.mW n
  have hb0:(S6.2==0)=false:=by simpa using he
  have hb1:(S6.2 != 0)=true:=by simpa using he
  have HE:=Hd he;clear he;go_wp2_with fail
  try go_quiet (fail)
  (try go_wp2_with fail);rw[HF];have e:=T6 HE;exact⟨by rw[e,iP HE.out];rfl,oU _⟩
 have hb0:(S6.2==0)=true:=by simpa using he
 have hc:=HC7 U6 x6 (by rw[←qY];exact HS.mW) he (HS.tx he);have HC:=Hd hc;have z0:=pG HS.bx 0 rfl;have m0:=pG HS.md 7 rfl;clear hc he HC7 HL6 T6;go_wp2_with fail;refine HC.mono ?_;rintro e y7 ⟨U7,rfl,ht,hb2⟩;have hst:=HS.step hb2 ht;have X9:=kX hb2 (Hd HS.bx);have f0:=pG X9 0 rfl;have f1:=pG X9 1 rfl;have f2:=frz X9;clear hb2 ht z0 z1 m0 hb0 HS HC
 go_upto_if 66 with fail
 obtain⟨x7,hx7⟩:=aj ((y7.setCell ⟨b,0,none⟩ (.string U7)).setCell ⟨b,1,none⟩ (.int .i64 S7.2));rw[←hx7]at hst⊢;have HS:=Hd hst;clear f0 f1 f2 X9 hst hx7;have z1:=pG HS.bx 1 rfl
 by_cases he:S7.2=0
 case neg=>
  have oU:Hid (∀n,Below w.heap.size w (x7.drewN n)):=fun n=>by rw[←qY];exact QX HS.mW n
  have hb0:(S7.2==0)=false:=by simpa using he
  have hb1:(S7.2 != 0)=true:=by simpa using he
  have HE:=Hd he;clear he;go_wp2_with fail
  try go_quiet (fail)
  (try go_wp2_with fail);rw[HF];exact⟨by rw[iP HE.out];rfl,oU _⟩
 have hb1:(S7.2 != 0)=false:=by simpa using he
 have hne:¬S7.2≠0:=fun h=>h he;have vM:=Hd hne;have htx:=HS.tx he;have hsz:U7.size=S7.1.length:=by rw[←aC,htx]
 have ana:=Hd htx;have mg:=Hd hsz;have z0:=pG HS.bx 0 rfl;have oU:Hid (Below w.heap.size w x7):=by show Below _ _ _;rw[←qY];exact HS.mW
 clear he hne htx hsz
 by_cases hbig:65536<U7.size
 ·have h1:(65536:Int)<(U7.size:Int):=by omega
  have HG:=Hd hbig;clear hbig;go_wp2_with fail;rw[HF,iN vM.out,iP (by rw[←mg];exact HG)];exact⟨rfl,oU⟩
 ·have h1:¬(65536:Int)<(U7.size:Int):=by omega
  have HG:=Hd hbig;clear hbig;go_wp2_with fail;rw[HF,iN vM.out,iN (by rw[←mg];exact HG),←ana];exact⟨rfl,oU⟩
theorem amw(hS:JQ IG)(hF:∀m,PX m→JQ m∧amL m)(hI:RIs)(hTx:RTx)
 (V:Nat→Value) (m:Md) (w:World) (hM:Km w V m) (hNm:WZ m) (hL:aa5 m) (hT:Tables w) :
 Calls Tryz.prog 4 #[.agg #[V 0,V 1,V 2,V 3,V 4,V 5,V 6,V 7]] w (EA w):=by
 obtain⟨F,HF⟩:=ak (EA w);rw[←HF];have HLV:Hid (∀W,Below w.heap.size w W→Calls Tryz.prog 7 #[] W (EA W)):=fun W hb=>Ux hS W (hT.below hb);have HWT:Hid (∀W,Below w.heap.size w W→je W):=fun W hb=>(hT.below hb).ac7;have HB:=Hd (Br w.heap.size w);obtain⟨P00,c00,e00,pc0,pm0,-⟩:=hM.vars;obtain⟨P01,c01,e01,pc1,pm1,-⟩:=hM.defs;obtain⟨P02,c02,e02,pc2,pm2,-⟩:=hM.init;obtain⟨P03,c03,e03,pc3,pm3,-⟩:=hM.bF;obtain⟨P04,c04,e04,pc4,pm4,-⟩:=hM.next;obtain⟨P05,c05,e05,pc5,pm5,-⟩:=hM.trans;obtain⟨P06,c06,e06,pc6,pm6,-⟩:=hM.fair;obtain⟨P07,c07,e07,pc7,pm7,-⟩:=hM.specs;obtain⟨n00,N00⟩:=ak m.vars.length;obtain⟨n01,N01⟩:=ak m.defs.length;obtain⟨n02,N02⟩:=ak m.init.length;obtain⟨n03,N03⟩:=ak m.bF.length;obtain⟨n04,N04⟩:=ak m.next.length;obtain⟨n05,N05⟩:=ak m.trans.length;obtain⟨n06,N06⟩:=ak m.fair.length;obtain⟨n07,N07⟩:=ak m.specs.length;rw[←N00]at e00 pc0;rw[←N01]at e01 pc1;rw[←N02]at e02 pc2;rw[←N03]at e03 pc3;rw[←N04]at e04 pc4;rw[←N05]at e05 pc5;rw[←N06]at e06 pc6;rw[←N07]at e07 pc7;unfold maxLen at pm0 pm1 pm2 pm3 pm4 pm5 pm6 pm7;have E00:=Hd e00;have E01:=Hd e01;have E02:=Hd e02;have E03:=Hd e03;have E04:=Hd e04;have E05:=Hd e05;have E06:=Hd e06;have E07:=Hd e07;rw[e00,e01,e02,e03,e04,e05,e06,e07];obtain⟨b0,K0⟩:=ak w.heap.size
 obtain⟨w1,W0⟩:=ak (w.alloc (.cells #[.slice P00 n00 c00,.slice P01 n01 c01,.slice P02 n02 c02,.slice P03 n03 c03,.slice P04 n04 c04,.slice P05 n05 c05,.slice P06 n06 c06,.slice P07 n07 c07] 28));have S0:=Hd (dz W0);have T0:=jZ W0 K0;have hcf:=ael V m w1 (hM.below S0) hL;rw[e00,e01,e02,e03,e04,e05,e06,e07]at hcf;have HCF:=Hd hcf;have HM:=Hd hM;have xR:=Hd hNm;have HFF:=Hd hF;have HIS:=Hd hI;have CF:=Hd hTx;have HBn:=S0;clear HB;have HB:=HBn;clear HBn hT hS hcf hM hNm hL hF hI hTx;clear e00 e01 e02 e03 e04 e05 e06 e07;go_in;go_wp2_with fail;rw[←W0]
 try rw[←K0]
 (try go_wp2_with fail);refine HCF.mono ?_;rintro e w2 ⟨⟨r,rfl,hr⟩,hb⟩;have X0:Hid (_=_):=(hb.block b0 (lH T0)).trans T0;have HFR:=Hd hr;replace HB:=kB HB hb;clear hr hb HCF
 cases r with
 |false=>
  go_wp2_with fail;refine(HLV _ HB).mono ?_;rintro e w9 ⟨rfl,Ub⟩;have VT:=kB HB Ub;clear Ub;go_wp2_with fail;rw[HF];exact⟨rfl,VT⟩
 |true=>
  obtain⟨hA,hR⟩:=HFF m (HFR rfl)
  have HSH:Hid (∀W,Below w.heap.size w W→Calls Tryz.prog 12 #[.agg #[.slice P00 n00 c00,.slice P01 n01 c01,.slice P02 n02 c02,.slice P03 n03 c03,.slice P04 n04 c04,.slice P05 n05 c05,.slice P06 n06 c06,.slice P07 n07 c07]] W fun r w'=>r=.returned (.tuple #[.string ⟨(kg m).1.toArray⟩,.int .i64 (kg m).2])∧Below W.heap.size W w'):=fun W hb=>by
   have h:=I7 V m W (HM.below hb) hA xR (HWT _ hb);rw[E00,E01,E02,E03,E04,E05,E06,E07]at h;exact h
  have BI:Hid (∀W,Below w.heap.size w W→Calls Tryz.prog 13 #[.agg #[.slice P00 n00 c00,.slice P01 n01 c01,.slice P02 n02 c02,.slice P03 n03 c03,.slice P04 n04 c04,.slice P05 n05 c05,.slice P06 n06 c06,.slice P07 n07 c07]] W fun r w'=>r=.returned (.tuple #[.string ⟨(kg m).1.toArray⟩,.int .i64 (kg m).2])∧Below W.heap.size W w'):=fun W hb=>by
   have h:=amM V m W (HM.below hb) hR HIS CF xR;rw[E00,E01,E02,E03,E04,E05,E06,E07]at h;exact h
  obtain⟨t,Ht⟩:=ak (⟨(kg m).1.toArray⟩:ByteArray);obtain⟨q,Hq⟩:=ak (kg m).2;rw[←Ht,←Hq]at HSH BI;obtain⟨u0,u1,u2,u3,u4,u5,u6,u7,-⟩:=q8 X0;have lb0:=lH X0;clear hA hR;go_wp2_with fail;refine(HSH _ HB).mono ?_;rintro e w3 ⟨rfl,hb⟩;have X1:Hid (_=_):=(hb.block b0 (lH X0)).trans X0;replace HB:=kB HB hb;clear hb HSH X0 u0 u1 u2 u3 u4 u5 u6 u7 lb0;obtain⟨u0,u1,u2,u3,u4,u5,u6,u7,-⟩:=q8 X1;have lb0:=lH X1;go_wp2_with fail;refine(BI _ HB).mono ?_;rintro e w4 ⟨rfl,hb⟩;replace HB:=kB HB hb;clear hb BI X1 u0 u1 u2 u3 u4 u5 u6 u7 lb0;go_wp2_with fail;refine(HLV _ HB).mono ?_;rintro e w9 ⟨rfl,Ub⟩;have VT:=kB HB Ub;clear Ub;go_wp2_with fail;rw[HF];exact⟨rfl,VT⟩
end Go.Proofs.YtkhoeoilamddaaaGreatDoor
