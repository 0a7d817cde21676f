/- Walks and plain words: RprU RprW RprX. -/
import Derived.Test.YtnbphgeepnknlaaGreatDoorURprS
namespace Go.Proofs.YtnbphgeepnknlaaGreatDoor
open Go.RowKit
set_option linter.unusedVariables false
set_option linter.unusedSimpArgs false
set_option maxRecDepth 100000
set_option maxHeartbeats 1000000
theorem tLRprU {o:Array Oper} {i:Nat} {x:Oper} (h:o.toList[i]?=some x):o[i]?=some x:=by simpa using h
theorem rpsum_false (l:List Tok) (d:Nat) (P:Par) (hd:d≤256) (hF:FnRB l d 226 true P) (hG:GdP l P) (hZ:NzP P):FnRB l d 226 false (left l P [14,15]):=by
 intro A c i w hi hP;obtain ⟨n,b6,w1,F,hlen,hlc,hcm,hs1,X6,HB,HP,HP1,HS,HI,HF,HN,HB6,HW1⟩:=rset A c l w hP (GQ w (left l P [14,15] i));rw [←HF.out,←HN.out];rw [←HN.out] at hi;clear hP
 have HI1:Hid (∀ (i:Nat) (W:World),i≤l.length→TokIn W A c l→Calls Tryz.prog 226 #[.slice A n c,.int .i64 (i:Nat),.int .i64 ((d:Nat):Int),.bool true] W (GQ W (P i))):=by
  intro i W h1 h2;have:=hF A c i W h1 h2;rw [←HN.out] at this;exact this
 obtain ⟨HI1P,HQHI1⟩:=exh_ P;rw [←HQHI1.out] at HI1;have HI1G:Hid (GdP l HI1P):=by show GdP _ _;rw [HQHI1.out];exact hG
 have HI1Z:Hid (NzP HI1P):=by show NzP _;rw [HQHI1.out];exact hZ
 clear hF hG hZ;go_enter Tryz.func226,Tryz.ntmps226;obtain ⟨b7,hb7⟩:=ex_ w1.heap.size;obtain ⟨w2,hw2⟩:=ex_ (w1.alloc (.cells #[.int .i64 0,.int .i64 0,.string ⟨#[]⟩,.slice none 0 0,.int .i64 0,.int .i64 0] 140));have Xb7:=nAl hw2 hb7;have NEb7:Hid (b7≠b6):=by show _≠_;have:=lH X6.out;omega
 have hal:=bAl hw2;have Qb7:=Hd hb7;have Qw2:=Hd hw2;clear hb7 hw2;have NLT:Hid (b6<b7):=by show _<_;have:=Qb7.out;omega
 replace X6:=kX hal X6;replace HB:=kB HB hal;clear hal;have hcf:=HI1.out (i) w2 (by first | omega | (rw [←HN.out];omega)) (HP.out.below HB.out);obtain ⟨r1,HRr1⟩:=exh_ (HI1P (i));rw [←HRr1.out] at hcf;have HC:=Hd hcf;have HGr1:Hid (∀ x k,r1=.ok x k→Gd l (i) x k):=fun x k h=>HI1G.out (i) x k (by rw [←HRr1.out];exact h);have HZr1:Hid (∀ k x,r1=.bad k x→x≠0):=fun k x h=>HI1Z.out (i) k x (by rw [←HRr1.out];exact h);clear hcf;go_wp2_with fail;rw [←HW1.out,←Qw2.out,show w.heap.size+1=b7 from by have:=Qb7.out;have:=HB6.out;omega]
 try rw [←HB6.out]
 refine (HC.out).mono ?_;intro e w3 hq;have HRE:Hid (F=GQ w (left l P [14,15] i)):=HF;obtain ⟨r,hr⟩:=ex_ (left l P [14,15] i);rw [←hr] at HRE;rw [left_fuel,←HQHI1.out,←HRr1.out] at hr;obtain ⟨A',c',rfl,hV,hb2⟩:=hq;have HV:Hid (TmVS (fun q=>b7<q) w3 A' c' (gotT r1)):=hV.keep Kr (fun q _ h=>by have:=lH Xb7.out;omega);replace X6:=kX hb2 X6;replace Xb7:=kX hb2 Xb7;replace HB:=kB HB hb2;have hS0:=SumS.set (i:=i) (one:=HI1P) (ops:=[14,15]) (fuel:=l.length) (ra:=r1) (r:=r) HB6.out (by have:=HB6.out;have:=Qb7.out;have:=HB.out.size;have:=lH X6.out;omega) X6.out Xb7.out HV.out HB.out (fun t j h=>by have:=HGr1.out t j h;exact ⟨this.ij,this.jl,by omega⟩) (HZr1.out) hr.symm;clear hb2 hV HC hr;obtain ⟨w4,Qw4⟩:=exh_ (((((((w3.setCell ⟨b7,0,none⟩ (.int .i64 (gotT r1).op)).setCell ⟨b7,1,none⟩ (.int .i64 (gotT r1).num)).setCell ⟨b7,2,none⟩ (.string (gotT r1).name)).setCell ⟨b7,3,none⟩ (.slice A' (gotT r1).kids.length c')).setCell ⟨b7,4,none⟩ (.int .i64 (gotI r1:Nat))).setCell ⟨b7,5,none⟩ (.int .i64 (gotE r1))));rw [←Qw4.out] at hS0;have HS0:=Hd hS0;clear hS0;obtain ⟨n1,hn1⟩:=ex_ ((gotT r1).kids.length);have HQn1:=Hd hn1;rw [←hn1];obtain ⟨u0,u1,u2,u3,u4,u5,uzq⟩:=q6 Xb7.out;have ul:b7<w3.heap.size:=lH Xb7.out;obtain ⟨v0,v1,v2,v3,v4,v5,vzq⟩:=q6 X6.out;have vl:b6<w3.heap.size:=lH X6.out;go_wp2_with fail
 clear u0 uzq u1 u2 u3 u4 u5 ul v0 vzq v1 v2 v3 v4 v5 vl
 try rw [hn1]
 rw [←Qw4.out];clear hn1
 go_loopw [10] (fun sv wr=>∃ (ra:Rs Tm) (A':Option Addr) (c' fuel:Nat),SumS w l i b6 b7 HI1P [14,15] r wr ra A' c' fuel) (fun _ wr=>l.length - jAt b7 wr)
 case atStart=>exact ⟨r1,A',c',l.length,HS0.out⟩
 case round=>
  obtain ⟨ra,A',c',fuel,hS⟩:=hrel;have HS:=Hd hS;clear hS X6 Xb7 HV HB HS0 Qw4 HQn1;have X6:=Hd HS.out.x6;have Xb7:=Hd HS.out.x7;have HB:=Hd HS.out.below;have nb7:b7≠b6:=NEb7.out
  rcases ra with ⟨jb,xb⟩ | ⟨t1,j1⟩
  · have HRR:Hid (F=GQ w (.bad jb xb)):=by show _=_;rw [HRE.out,←HS.out.re];rfl
    have hx:=HS.out.bad jb xb rfl;have hxb:(xb == 0)=false:=by simpa using hx
    replace Xb7:Hid (wr.heap[b7]?=some (.cells #[.int .i64 0,.int .i64 0,.string ⟨#[]⟩,.slice A' 0 c',.int .i64 (jb:Nat),.int .i64 xb] 140 (0,0))):=Xb7;have HV:Hid (TmVS (fun q=>w.heap.size<q) wr A' c' zeroTm):=HS.out.v.keep Kr (fun q _ h=>by have:=HB6.out;have:=NLT.out;omega);clear hx;obtain ⟨u0,u1,u2,u3,u4,u5,uzq⟩:=q6 Xb7.out;have ul:b7<wr.heap.size:=lH Xb7.out;obtain ⟨v0,v1,v2,v3,v4,v5,vzq⟩:=q6 X6.out;have vl:b6<wr.heap.size:=lH X6.out;go_wp2_with fail;clear u0 uzq u1 u2 u3 u4 u5 ul v0 vzq v1 v2 v3 v4 v5 vl;refine bR (rcG (res6 X6.out)) rfl ?_;rw [HRR.out];exact gq_end (r:=.bad jb xb) (A':=A') (c':=c') _ _ _ _ _ _ HB6.out HV.out HB.out
  · obtain ⟨A1,hA1⟩:=ex_ A';obtain ⟨c1,hc1⟩:=ex_ c';obtain ⟨n1,hn1⟩:=ex_ t1.kids.length;have HQn1:=Hd hn1;replace Xb7:Hid (wr.heap[b7]?=some (.cells #[.int .i64 t1.op,.int .i64 t1.num,.string t1.name,.slice A1 n1 c1,.int .i64 (j1:Nat),.int .i64 0] 140 (0,0))):=by show _=_;rw [hA1,hc1,hn1];exact Xb7.out
    have HV1:Hid (TmVS (fun q=>b7<q) wr A1 c1 t1):=by show TmVS _ _ _ _ _;rw [hA1,hc1];exact HS.out.v
    have HGO:Hid (leftL l HI1P [14,15] fuel t1 j1=r):=HS.out.re;have hok:=HS.out.ok t1 j1 rfl;have hij_j1:=hok.1;have hjl_j1:=hok.2.1;have HFU:=Hd hok.2.2;have HJA:Hid (jAt b7 wr=j1):=jAt_of Xb7.out;rw [←HN.out] at hjl_j1;clear hok HS hA1 hc1 hn1;obtain ⟨gtp,hgtp⟩:=ex_ wr.heap.size;obtain ⟨sp,hsp⟩:=ex_ (wr.alloc (.cells #[.string ⟨#[43]⟩,.string ⟨#[45]⟩] 9));have hbsp:=bAl hsp;have hxsp:sp.heap[gtp]?=some (.cells #[.string ⟨#[43]⟩,.string ⟨#[45]⟩] 9 (0,0)):=by rw [hsp,hgtp];exact hA_ wr _
    obtain ⟨gop,hgop⟩:=ex_ sp.heap.size;obtain ⟨tp,htp⟩:=ex_ (sp.alloc (.cells #[.int .i64 14,.int .i64 15] 3));have hbtp:=bAl htp;have hbel2:Below wr.heap.size wr tp:=hbsp.trans (hbtp.mono hbsp.size);have hO:OpsAt tp gop [14,15]:=by rw [htp,hgop];exact ops_new sp [14,15]
    have hxtp:tp.heap[gtp]?=some (.cells #[.string ⟨#[43]⟩,.string ⟨#[45]⟩] 9 (0,0)):=(hbtp.block gtp (lH hxsp)).trans hxsp
    have hwh:=rpwhich_any A c j1 l [14,15] gtp gop 2 2 tp (HP.out.below (HB.out.trans (hbel2.mono HB.out.size))) (by omega) (by decide) (fun k op hop=>by
     rw [cR tp gtp k _ _ (0,0) hxtp];have hk:=(gE.1 hop).1;simp only [List.length_cons,List.length_nil] at hk;have hk2:k=0∨k=1:=by omega
     rcases hk2 with rfl | rfl
     all_goals
      simp at hop;subst hop
      rfl) hO (by decide)
    rw [←HN.out] at hwh;have HC:=Hd hwh;have Qgtp:=Hd hgtp;have Qgop:Hid (gop=wr.heap.size+1):=by show _=_;rw [hgop,hsp];simp
    have Qsp:=Hd hsp;have Qtp:=Hd htp;obtain ⟨u0,u1,u2,u3,u4,u5,uzq⟩:=q6 Xb7.out;have ul:b7<wr.heap.size:=lH Xb7.out;clear hwh hgtp hgop hsp htp hO hxsp hxtp hbsp hbtp;go_wp2_with fail;rw [←Qsp.out,←Qtp.out,←Qgop.out,←Qgtp.out];clear u0 uzq u1 u2 u3 u4 u5 ul;replace X6:=kX hbel2 X6;replace Xb7:=kX hbel2 Xb7;replace HV1:Hid (TmVS (fun q=>b7<q) tp A1 c1 t1):=HV1.out.keep (Kb hbel2) (fun _ _ h=>h);replace HB:=kB HB hbel2;clear hbel2;refine (HC.out).mono ?_;rintro e w' ⟨rfl,hww⟩;rw [hww];clear hww HC
    by_cases hz:whichOp l j1 [14,15]=0
    · have HRR:Hid (F=GQ w (.ok t1 j1)):=by show _=_;rw [HRE.out,←HGO.out,left_stop hz]
      rw [hz];clear hz;obtain ⟨u0,u1,u2,u3,u4,u5,uzq⟩:=q6 Xb7.out;have ul:b7<tp.heap.size:=lH Xb7.out;obtain ⟨v0,v1,v2,v3,v4,v5,vzq⟩:=q6 X6.out;have vl:b6<tp.heap.size:=lH X6.out;go_wp2_with fail;clear u0 uzq u1 u2 u3 u4 u5 ul v0 vzq v1 v2 v3 v4 v5 vl;refine bR (rcG (res6 X6.out)) rfl ?_;rw [HRR.out,HQn1.out];exact gq_end (r:=.ok t1 j1) (A':=A1) (c':=c1) _ _ _ _ _ _ HB6.out (HV1.out.keep Kr (fun q _ h=>by have:=HB6.out;have:=NLT.out;omega)) HB.out
    · have hjl2:=which_lt hz;rw [←HN.out] at hjl2;obtain ⟨fu,hfu⟩:∃ fu,fuel=fu+1:=⟨fuel - 1,by have:=HFU.out;have:=HN.out;omega⟩;have HFU2:Hid (l.length≤fu+1+j1):=by show _≤_;have:=HFU.out;omega
      have HGO2:Hid ((HI1P (j1+1)).then (fun u k=>leftL l HI1P [14,15] fu (tmOf (whichOp l j1 [14,15]) [t1,u]) k)=r):=by show _=_;rw [←HGO.out,hfu,left_go hz]
      obtain ⟨zz,hzz⟩:=ex_ (whichOp l j1 [14,15]);rw [←hzz] at hz HGO2 ⊢;have hzb:(zz == 0)=false:=by simpa using hz
      clear hz hzz hfu HFU HGO;obtain ⟨u0,u1,u2,u3,u4,u5,uzq⟩:=q6 Xb7.out;have ul:b7<tp.heap.size:=lH Xb7.out;have X7L:Hid (b7<tp.heap.size):=lH Xb7.out;obtain ⟨b8,hb8⟩:=ex_ tp.heap.size;obtain ⟨w5,hw5⟩:=ex_ (tp.alloc (.cells #[.int .i64 0,.int .i64 0,.string ⟨#[]⟩,.slice none 0 0,.int .i64 0,.int .i64 0] 140));have Xb8:=nAl hw5 hb8;have NEb8:Hid (b8≠b6):=by show _≠_;have:=lH X6.out;omega
      have hal:=bAl hw5;have Qb8:=Hd hb8;have Qw5:=Hd hw5;clear hb8 hw5;replace HV1:Hid (TmVS (fun q=>b7<q∧q≠b8) tp A1 c1 t1):=HV1.out.keep Kr (fun q hq h=>⟨h,by have:=Qb8.out;omega⟩);replace X6:=kX hal X6;replace Xb7:=kX hal Xb7;replace HV1:Hid (TmVS (fun q=>b7<q∧q≠b8) w5 A1 c1 t1):=HV1.out.keep (Kb hal) (fun _ _ h=>h);replace HB:=kB HB hal;have NB8:Hid (b8≠b7):=by show _≠_;have:=Qb8.out;have:=lH Xb7.out;have:=hal.size;have:b7<tp.heap.size:=X7L.out;omega
      have NL8:Hid (b7<b8):=by show _<_;have:=Qb8.out;have:b7<tp.heap.size:=X7L.out;omega
      clear hal;have hcf:=HI1.out (j1+1) w5 (by first | omega | (rw [←HN.out];omega)) (HP.out.below HB.out);rw [show ((j1+1:Nat):Int)=(j1:Int)+1 from by omega] at hcf;obtain ⟨r2,HRr2⟩:=exh_ (HI1P (j1+1));rw [←HRr2.out] at hcf;have HC:=Hd hcf;have HGr2:Hid (∀ x k,r2=.ok x k→Gd l (j1+1) x k):=fun x k h=>HI1G.out (j1+1) x k (by rw [←HRr2.out];exact h);have HZr2:Hid (∀ k x,r2=.bad k x→x≠0):=fun k x h=>HI1Z.out (j1+1) k x (by rw [←HRr2.out];exact h);clear hcf;go_wp2_with fail;rw [←Qw5.out,←Qb8.out];clear u0 uzq u1 u2 u3 u4 u5 ul;refine (HC.out).mono ?_;intro e w6 hq
      rcases r2 with ⟨jb,xb⟩ | ⟨t2,j2⟩
      · obtain ⟨A2,c2,rfl,hV,hb2⟩:=gq_bad.1 hq;have HRR:Hid (F=GQ w (.bad jb xb)):=by show _=_;rw [HRE.out,←HGO2.out,←HRr2.out];rfl
        have hx:=HZr2.out _ _ rfl;have hxb:(xb != 0)=true:=by simpa using hx
        have HV:Hid (TmVS (fun q=>b8<q) w6 A2 c2 zeroTm):=hV.keep Kr (fun q _ h=>by have:=lH Xb8.out;omega);replace X6:=kX hb2 X6;replace Xb7:=kX hb2 Xb7;replace Xb8:=kX hb2 Xb8;replace HV1:Hid (TmVS (fun q=>b7<q∧q≠b8) w6 A1 c1 t1):=HV1.out.keep (Kb hb2) (fun _ _ h=>h);replace HB:=kB HB hb2;clear hb2 hV hq HC hx;have nb8:b8≠b6:=NEb8.out;obtain ⟨u0,u1,u2,u3,u4,u5,uzq⟩:=q6 Xb8.out;have ul:b8<w6.heap.size:=lH Xb8.out;obtain ⟨v0,v1,v2,v3,v4,v5,vzq⟩:=q6 X6.out;have vl:b6<w6.heap.size:=lH X6.out;go_wp2_with fail;clear u0 uzq u1 u2 u3 u4 u5 ul v0 vzq v1 v2 v3 v4 v5 vl;refine bR (rcG (res6 ((sets6_far nb8.symm).trans X6.out))) rfl ?_;rw [HRR.out];exact gq_end2 (r:=.bad jb xb) (A':=A2) (c':=c2) _ _ _ _ _ _ _ _ _ _ _ _ HB6.out (by have:=HB6.out;have:=NLT.out;have:=NL8.out;omega) HV.out HB.out
      · obtain ⟨A2,c2,rfl,hV,hb2⟩:=gq_ok.1 hq;have HGO3:Hid (leftL l HI1P [14,15] fu (tmOf zz [t1,t2]) j2=r):=by show _=_;rw [←HGO2.out,←HRr2.out];rfl
        have HV2:Hid (TmVS (fun q=>b8<q) w6 A2 c2 t2):=hV.keep Kr (fun q _ h=>by have:=lH Xb8.out;omega);have hgd:=HGr2.out _ _ rfl;have hij_j2:=hgd.ij;have hjl_j2:=hgd.jl;rw [←HN.out] at hjl_j2;clear hgd HGO2;obtain ⟨n2,HQn2⟩:=exh_ t2.kids.length;rw [←HQn2.out];replace X6:=kX hb2 X6;replace Xb7:=kX hb2 Xb7;replace Xb8:=kX hb2 Xb8;replace HV1:Hid (TmVS (fun q=>b7<q∧q≠b8) w6 A1 c1 t1):=HV1.out.keep (Kb hb2) (fun _ _ h=>h);replace HB:=kB HB hb2;clear hb2 hV hq HC;obtain ⟨w7,hw7⟩:=ex_ (((((((w6.setCell ⟨b8,0,none⟩ (.int .i64 t2.op)).setCell ⟨b8,1,none⟩ (.int .i64 t2.num)).setCell ⟨b8,2,none⟩ (.string t2.name)).setCell ⟨b8,3,none⟩ (.slice A2 n2 c2)).setCell ⟨b8,4,none⟩ (.int .i64 (j2:Nat))).setCell ⟨b8,5,none⟩ (.int .i64 0)));have nb8:b8≠b6:=NEb8.out;have nb87:b8≠b7:=NB8.out;have YX6:Hid (w7.heap[b6]?=some (.cells #[.int .i64 0,.int .i64 0,.string ⟨#[]⟩,.slice none 0 0,.int .i64 0,.int .i64 0] 140 (0,0))):=by show _=_;rw [hw7];exact (sets6_far nb8.symm).trans X6.out
        have YX7:Hid (w7.heap[b7]?=some (.cells #[.int .i64 t1.op,.int .i64 t1.num,.string t1.name,.slice A1 n1 c1,.int .i64 (j1:Nat),.int .i64 0] 140 (0,0))):=by show _=_;rw [hw7];exact (sets6_far nb87.symm).trans Xb7.out
        have YX8:Hid (w7.heap[b8]?=some (.cells #[.int .i64 t2.op,.int .i64 t2.num,.string t2.name,.slice A2 n2 c2,.int .i64 (j2:Nat),.int .i64 0] 140 (0,0))):=by show _=_;rw [hw7];exact res6 Xb8.out
        have YV1:Hid (TmVS (fun q=>b7<q) w7 A1 c1 t1):=by show TmVS _ _ _ _ _;rw [hw7];exact HV1.out.keep (keep6 (by simp)) (fun q _ h=>h.1)
        have YV2:Hid (TmVS (fun q=>b7<q) w7 A2 c2 t2):=by show TmVS _ _ _ _ _;rw [hw7];exact HV2.out.keep (keep6 (by simp)) (fun q _ h=>by have:=NL8.out;omega)
        have YB:Hid (Below w.heap.size w w7):=by show Below _ _ _;rw [hw7];exact below6 HB.out (by have:=HB6.out;have:=NLT.out;have:=NL8.out;omega)
        have Qw7:=Hd hw7;clear hw7;obtain ⟨u0,u1,u2,u3,u4,u5,uzq⟩:=q6 Xb8.out;have ul:b8<w6.heap.size:=lH Xb8.out;go_wp2_with fail;rw [←Qw7.out];clear u0 uzq u1 u2 u3 u4 u5 ul X6 Xb7 Xb8 HV1 HV2 HB;have X6:=YX6;have Xb7:=YX7;have Xb8:=YX8;have HV1:=YV1;have HV2:=YV2;have HB:=YB;clear YX6 YX7 YX8 YV1 YV2 YB Qw7;have n87:b8≠b7:=NB8.out;obtain ⟨wd,hwd⟩:=ex_ w7.drew;have hbd:Below w7.heap.size w7 wd:=by rw [hwd];exact (Br _ _).drew
        replace X6:=kX hbd X6;replace Xb7:=kX hbd Xb7;replace Xb8:=kX hbd Xb8;replace HV1:Hid (TmVS (fun q=>b7<q) wd A1 c1 t1):=HV1.out.keep (Kb hbd) (fun _ _ h=>h);replace HV2:Hid (TmVS (fun q=>b7<q) wd A2 c2 t2):=HV2.out.keep (Kb hbd) (fun _ _ h=>h);replace HB:=kB HB hbd
        have HTW:Hid (Calls Tryz.prog 138 #[.int .i64 zz,.agg #[.int .i64 t1.op,.int .i64 t1.num,.string t1.name,.slice A1 n1 c1],.agg #[.int .i64 t2.op,.int .i64 t2.num,.string t2.name,.slice A2 n2 c2]] wd fun e w'=>∃ g,e=.returned (.agg #[.int .i64 zz,.int .i64 0,.string ⟨#[]⟩,.slice (some ⟨g,0,none⟩) 2 2])∧TmVS (fun q=>b7<q) w' (some ⟨g,0,none⟩) 2 (tmOf zz [t1,t2])∧Below wd.heap.size wd w'):=by
         have h:=rptwo_any zz t1 t2 A1 c1 A2 c2 (b7+1) wd (by have:=lH Xb7.out;omega) HV1.out HV2.out;unfold Tm.val at h;rw [←HQn1.out,←HQn2.out] at h;exact h
        refine wp_region_held_drew (S:=fun w'=>w'.heap[b8]?=some (.cells #[.int .i64 t2.op,.int .i64 t2.num,.string t2.name,.slice A2 n2 c2,.int .i64 (j2:Nat),.int .i64 0] 140 (0,0))) (by kernel_rfl) (by rw [←hwd];exact Xb8.out) (fun hHeld=>?_);rw [←hwd] at hHeld ⊢;clear hwd hbd;refine tkH 0 (v:=?_) (tLRprU rfl) (Or.inl ⟨by rfl,?hy⟩) (by assumption) ?_
        case hy=>
         intro w0 hSw;clear hSw;go_simp
         (first | done | with_reducible rfl)
        (try simp only [Act.put,sAr,sZe,sSu]);refine tkH 1 (v:=?_) (tLRprU rfl) (Or.inl ⟨by rfl,?hy⟩) (by assumption) ?_
        case hy=>
         intro w0 hSw;clear hSw;go_simp
         (first | done | with_reducible rfl)
        (try simp only [Act.put,sAr,sZe,sSu]);refine tkH 3 (v:=?_) (tLRprU rfl) (Or.inl ⟨by rfl,?hy⟩) (by assumption) ?_
        case hy=>
         intro w0 hSw;clear hSw;go_simp
         (first | done | with_reducible rfl)
        (try simp only [Act.put,sAr,sZe,sSu]);refine tkH 4 (v:=?_) (tLRprU rfl) (Or.inl ⟨by rfl,?hy⟩) (by assumption) ?_
        case hy=>
         intro w0 hSw;obtain ⟨h0,h1,h2,h3,h4,h5,-⟩:=q6 hSw;clear hSw;go_simp
         (first | done | with_reducible rfl)
        (try simp only [Act.put,sAr,sZe,sSu]);refine tkH 6 (v:=?_) (tLRprU rfl) (Or.inl ⟨by rfl,?hy⟩) (by assumption) ?_
        case hy=>
         intro w0 hSw;clear hSw;go_simp
         (first | done | with_reducible rfl)
        (try simp only [Act.put,sAr,sZe,sSu]);refine tkH 7 (v:=?_) (tLRprU rfl) (Or.inl ⟨by rfl,?hy⟩) (by assumption) ?_
        case hy=>
         intro w0 hSw;obtain ⟨h0,h1,h2,h3,h4,h5,-⟩:=q6 hSw;clear hSw;go_simp
         (first | done | with_reducible rfl)
        (try simp only [Act.put,sAr,sZe,sSu]);refine Rd (rs:=[2]) (by kernel_rfl) (by simp) ?_;refine Rc (tLRprU rfl) (fun K hK=>?_) Rn;obtain ⟨u0,u1,u2,u3,u4,u5,uzq⟩:=q6 Xb7.out;have ul:b7<wd.heap.size:=lH Xb7.out;go_simp;clear u0 uzq u1 u2 u3 u4 u5 ul;refine hK.out _ _ hHeld (fun hHeld=>?_);clear hK K;(try simp only [Act.put,sAr,sZe,sSu]);refine Rd (rs:=[5]) (by kernel_rfl) (by simp) ?_;refine Rc (tLRprU rfl) (fun K hK=>?_) Rn;go_simp;(with_reducible refine (HTW.out).mono ?_);rintro e w8 ⟨g,rfl,hVT,hbT⟩;have HVT:=Hd hVT;refine hK.out _ _ ((hbT.block b8 (lH Xb8.out)).trans Xb8.out) (fun hHeld=>?_);clear hK K;(try simp only [Act.put,sAr,sZe,sSu]);replace X6:=kX hbT X6;replace Xb7:=kX hbT Xb7;replace HB:=kB HB hbT;clear hbT hVT HTW;refine tkH 8 (v:=?_) (tLRprU rfl) (Or.inl ⟨by rfl,?hy⟩) (by assumption) ?_
        case hy=>
         intro w0 hSw;clear hSw;go_simp
         (first | done | with_reducible rfl)
        (try simp only [Act.put,sAr,sZe,sSu]);refine Rd (rs:=[9]) (by kernel_rfl) (by simp) ?_;refine Rc (tLRprU rfl) (fun K hK=>?_) Rn;obtain ⟨u0,u1,u2,u3,u4,u5,uzq⟩:=q6 Xb7.out;have ul:b7<w8.heap.size:=lH Xb7.out;go_simp;clear u0 uzq u1 u2 u3 u4 u5 ul;refine hK.out _ _ ((sets6_far n87).trans hHeld) (fun hHeld=>?_);clear hK K;(try simp only [Act.put,sAr,sZe,sSu]);refine wpAnyH_done (by kernel_rfl) ?_ _;clear hHeld;have hSn:=SumS.set (i:=i) (one:=HI1P) (ops:=[14,15]) (fuel:=fu) (ra:=.ok (tmOf zz [t1,t2]) j2) (r:=r) HB6.out NLT.out X6.out Xb7.out HVT.out HB.out (fun t j h=>by cases h;have:=HFU2.out;have:=HN.out;exact ⟨by omega,by omega,by omega⟩) (fun j x h=>by cases h) HGO3.out;have hja:=HJA.out;have hjn:=jAt_of hSn.x7;go_wp2_with fail
        go_roundw
        case rel=>exact ⟨.ok (tmOf zz [t1,t2]) j2,some ⟨g,0,none⟩,2,fu,hSn⟩
        case measure=>
         have:=HN.out;rw [hja];refine lt_of_eq_of_lt (congrArg (l.length - ·) hjn) ?_;show l.length - j2<_;omega
theorem own_below {B n sz:Nat} {T:TypeId} {w w':World} {v:Value} {xs:List Value} (h:w.ownsRow B T sz v n xs) (hb:Below w.heap.size w w'):w'.ownsRow B T sz v n xs:=h.kept (row:=none) ⟨hb.os,hb.tape,hb.output,hb.size,fun k hk _=>hb.block k hk⟩ (by cases v.ownBlock <;> simp)
structure RowK (w:World) (b6:Nat) (wr:World) (v:Value) (acc:List TmE):Prop where
 x6:wr.heap[b6]?=some (.cells #[.int .i64 0,.int .i64 0,.string ⟨#[]⟩,.slice none 0 0,.int .i64 0,.int .i64 0] 140 (0,0))
 own:wr.ownsRow (b6+1) 25 4 v acc.length (flatE acc)
 vals:∀ e∈acc,TmVS (fun q=>b6<q∧v.ownBlock≠some q) wr e.A e.c e.t
 below:Below w.heap.size w wr
structure RowS (w:World) (l:List Tok) (b6:Nat) (op:Int) (one:Par) (r:Rs Tm) (wr:World) (v:Value) (acc:List TmE) (i fuel:Nat):Prop where
 b:RowK w b6 wr v acc
 cnt:acc.length≤i
 il:i≤l.length
 fu:l.length≤fuel+i
 re:((one i).then fun t j=>manyF l op one fuel (acc.map TmE.t++[t]) j)=r
theorem RowK.next {w wr w4 w6:World} {b6:Nat} {v v':Value} {acc:List TmE} {o:Obj} {t:Tm} {A':Option Addr} {c':Nat} (h:RowK w b6 wr v acc) (hb:b6=w.heap.size) (ho:Below wr.heap.size wr w4) (hV:TmVS (fun q=>wr.heap.size≤q) w4 A' c' t)
 (hown:w6.ownsRow (b6+1) 25 4 v' (acc.length+1) (flatE acc++(TmE.mk t A' c').cells)) (hg:(w4.alloc o).grownBy w6 v.ownBlock) (hat:v'.ownBlock=v.ownBlock∨∀ q,v'.ownBlock=some q→w4.heap.size≤q) :
 RowK w b6 w6 v' (acc++[⟨t,A',c'⟩]):=by
 have hs4:=ho.size;have hs1:=h.below.size;have hl6:b6<wr.heap.size:=lH h.x6;have hlt:∀ q,v.ownBlock=some q→b6+1≤q∧q<wr.heap.size:=fun q hq=>h.own.lt q hq;have hal:Below w4.heap.size w4 (w4.alloc o):=(Br _ _).alloc (lr _) o;have hk:∀ q,v.ownBlock≠some q→q<w4.heap.size→w6.heap[q]?=w4.heap[q]?:=fun q hq hl=>(hg.block q (by simp;omega) (fun e=>hq e.symm)).trans (hal.block q hl);have hs6:w4.heap.size≤w6.heap.size:=by have:=hg.size;simp at this;omega
 have hR:v.ownBlock≠some b6:=fun e=>by have:=(hlt b6 e).1;omega
 refine ⟨((hk b6 hR (by omega)).trans (ho.block b6 hl6)).trans h.x6,by rw [List.length_append,flatE_snoc];simpa [flatE] using hown,fun e he=>?_,?_⟩
 · have hfin:∀ q,q<w4.heap.size→(b6<q∧v.ownBlock≠some q)→(b6<q∧v'.ownBlock≠some q):=fun q hq ⟨h1,h2⟩=>⟨h1,fun e=>by
    rcases hat with h3 | h3
    · exact h2 (h3 ▸ e)
    · have:=h3 q e;omega⟩
   rcases List.mem_append.1 he with he | he
   · have h1:=(h.vals e he).keep (S':=fun q=>(b6<q∧v.ownBlock≠some q)) (Kb ho) (fun _ _ h=>h);exact h1.keep ⟨hs6,fun q hq hl=>hk q hq.2 hl⟩ hfin
   · rw [List.mem_singleton.1 he];have h1:=hV.keep (S':=fun q=>(b6<q∧v.ownBlock≠some q)) Kr (fun q _ h=>⟨by omega,fun e=>by have:=(hlt q e).2;omega⟩);exact h1.keep ⟨hs6,fun q hq hl=>hk q hq.2 hl⟩ hfin
 · have h1:=h.below.trans (ho.mono hs1);refine ⟨by rw [hg.os];exact h1.os,by rw [hg.tape];exact h1.tape,by rw [hg.output];exact h1.output,Nat.le_trans h1.size hs6,fun q hq=>?_⟩;rw [hk q (fun e=>by have:=(hlt q e).1;omega) (by omega)];exact h1.block q hq
theorem RowK.many {w wr:World} {b6 g cap n:Nat} {acc:List TmE} {op:Int} (h:RowK w b6 wr (.slice (some ⟨g,0,none⟩) n cap) acc) (hb:b6=w.heap.size):TmVS (fun q=>w.heap.size<q) wr (some ⟨g,0,none⟩) cap (tmOf op (acc.map TmE.t)):=by
 rcases h.own.2 with ⟨h9,-⟩ | ⟨g2,cap2,cur,he,hBg,hg,hnc,hcm,hcs,htk⟩
 · cases h9
 · cases he;refine ⟨by show (acc.map TmE.t).length≤cap;rw [List.length_map];exact hnc,hcm,zl _,.inr ⟨g,0,rfl,by show w.heap.size<g;omega,lH hg,?_⟩⟩;refine row_of_cells acc 0 (fun jj vv hv=>?_) (fun e9 he9=>(h.vals e9 he9).keep Kr (fun q _ h=>by have:=h.1;omega));have h:=h.own.cells (g:=g) rfl jj vv hv;rw [addr_add] at h;exact h
theorem RowK.one {w wr:World} {b6 g cap n:Nat} {e1:TmE} (h:RowK w b6 wr (.slice (some ⟨g,0,none⟩) n cap) [e1]):wr.cell? ⟨g,0,none⟩=some (.int .i64 e1.t.op)∧wr.cell? ⟨g,1,none⟩=some (.int .i64 e1.t.num)∧wr.cell? ⟨g,2,none⟩=some (.string e1.t.name)∧wr.cell? ⟨g,3,none⟩=some (.slice e1.A e1.t.kids.length e1.c):=by
 have hcl:∀ jj vv,(flatE [e1])[jj]?=some vv→wr.cell? ⟨g,jj,none⟩=some vv:=fun jj vv hv=>by
  have h:=h.own.cells (g:=g) rfl jj vv hv;rw [addr_add,Nat.zero_add] at h;exact h
 exact ⟨hcl 0 _ rfl,hcl 1 _ rfl,hcl 2 _ rfl,hcl 3 _ rfl⟩
theorem rprow_true (l:List Tok) (d:Nat) (P:Par) (hd:d≤256) (hF:FnR l d 202 P) (hG:GdP l P) (hZ:NzP P):FnRB l d 175 true (many l 6 P):=by
 intro A c i w hi hP;obtain ⟨n,b6,w1,F,hlen,hlc,hcm,hs1,X6,HB,HP,HP1,HS,HI,HF,HN,HB6,HW1⟩:=rset A c l w hP (GQ w (many l 6 P i));rw [←HF.out,←HN.out];rw [←HN.out] at hi;clear hP
 have HI1:Hid (∀ (i:Nat) (W:World),i≤l.length→TokIn W A c l→Calls Tryz.prog 202 #[.slice A n c,.int .i64 (i:Nat),.int .i64 ((d:Nat):Int)] W (GQ W (P i))):=by
  intro i W h1 h2;have:=hF A c i W h1 h2;rw [←HN.out] at this;exact this
 obtain ⟨HI1P,HQHI1⟩:=exh_ P;rw [←HQHI1.out] at HI1;have HI1G:Hid (GdP l HI1P):=by show GdP _ _;rw [HQHI1.out];exact hG
 have HI1Z:Hid (NzP HI1P):=by show NzP _;rw [HQHI1.out];exact hZ
 clear hF hG hZ;go_enter Tryz.func175,Tryz.ntmps175;obtain ⟨r,hr⟩:=ex_ (many l 6 P i);have HRE:Hid (F=GQ w r):=by show _=_;rw [HF.out,hr]
 have HR0:Hid (((HI1P i).then fun t j=>manyF l 6 HI1P l.length ([]++[t]) j)=r):=by show _=_;rw [hr,HQHI1.out];rfl
 clear hr;go_wp2_with fail;rw [←HW1.out]
 try rw [←HB6.out]
 go_loopw [1,11] (fun si sv wr=>∃ (acc:List TmE) (i fuel:Nat),si=.int .i64 (i:Nat)∧RowS w l b6 6 HI1P r wr sv acc i fuel) (fun si _ wr=>l.length+1 - (intOf si).toNat)
 case atStart=>exact ⟨[],i,l.length,rfl,⟨X6.out,World.ownsRow_nil _ _ _ _,fun _ h=>by simp at h,HB.out⟩,zl _,by rw [←HN.out];omega,by omega,HR0.out⟩
 case round=>
  obtain ⟨acc,i,fuel,rfl,hS⟩:=hrel;have HS:=Hd hS;have hi2:=hS.il;rw [←HN.out] at hi2;clear hS X6 HB HP1;have X6:=Hd HS.out.b.x6;have HB:=Hd HS.out.b.below;obtain ⟨b7,hb7⟩:=ex_ wr.heap.size;obtain ⟨w5,hw5⟩:=ex_ (wr.alloc (.cells #[.int .i64 0,.int .i64 0,.string ⟨#[]⟩,.slice none 0 0,.int .i64 0,.int .i64 0] 140));have Xb7:=nAl hw5 hb7;have NEb7:Hid (b7≠b6):=by show _≠_;have:=lH X6.out;omega
  have hal:=bAl hw5;have Qb7:=Hd hb7;have Qw5:=Hd hw5;clear hb7 hw5;replace X6:=kX hal X6;replace HB:=kB HB hal;have HBW:Hid (Below wr.heap.size wr w5):=hal;clear hal;have hcf:=HI1.out (i) w5 (by first | omega | (rw [←HN.out];omega)) (HP.out.below HB.out);obtain ⟨r1,HRr1⟩:=exh_ (HI1P (i));rw [←HRr1.out] at hcf;have HC:=Hd hcf;have HGr1:Hid (∀ x k,r1=.ok x k→Gd l (i) x k):=fun x k h=>HI1G.out (i) x k (by rw [←HRr1.out];exact h);have HZr1:Hid (∀ k x,r1=.bad k x→x≠0):=fun k x h=>HI1Z.out (i) k x (by rw [←HRr1.out];exact h);clear hcf;go_wp2_with fail;rw [←Qw5.out,←Qb7.out];refine (HC.out).mono ?_;intro e w6 hq
  rcases r1 with ⟨jb,xb⟩ | ⟨t1,j1⟩
  · obtain ⟨A2,c2,rfl,hV,hb2⟩:=gq_bad.1 hq;have HRR:Hid (F=GQ w (.bad jb xb)):=by show _=_;rw [HRE.out,←HS.out.re,←HRr1.out];rfl
    have hx:=HZr1.out _ _ rfl;have hxb:(xb != 0)=true:=by simpa using hx
    have HV:Hid (TmVS (fun q=>b7<q) w6 A2 c2 zeroTm):=hV.keep Kr (fun q _ h=>by have:=lH Xb7.out;omega);have NLT:Hid (b6<b7):=by show _<_;have:=Qb7.out;have:=lH HS.out.b.x6;omega
    replace X6:=kX hb2 X6;replace Xb7:=kX hb2 Xb7;replace HB:=kB HB hb2;clear hb2 hV hq HC hx;have nb7:b7≠b6:=NEb7.out;obtain ⟨u0,u1,u2,u3,u4,u5,uzq⟩:=q6 Xb7.out;have ul:b7<w6.heap.size:=lH Xb7.out;obtain ⟨v0,v1,v2,v3,v4,v5,vzq⟩:=q6 X6.out;have vl:b6<w6.heap.size:=lH X6.out;go_wp2_with fail;clear u0 uzq u1 u2 u3 u4 u5 ul v0 vzq v1 v2 v3 v4 v5 vl;refine bR (rcG (res6 ((sets6_far nb7.symm).trans X6.out))) rfl ?_;rw [HRR.out];exact gq_end2 (r:=.bad jb xb) (A':=A2) (c':=c2) _ _ _ _ _ _ _ _ _ _ _ _ HB6.out (by have:=HB6.out;have:=NLT.out;omega) HV.out HB.out
  · obtain ⟨A1,c1,rfl,hV,hb2⟩:=gq_ok.1 hq;have HGO:Hid (manyF l 6 HI1P fuel (acc.map TmE.t++[t1]) j1=r):=by show _=_;rw [←HS.out.re,←HRr1.out];rfl
    have HV1:Hid (TmVS (fun q=>b7<q) w6 A1 c1 t1):=hV.keep Kr (fun q _ h=>by have:=lH Xb7.out;omega);have hgd:=HGr1.out _ _ rfl;have hij_j1:=hgd.ij;have hjl_j1:=hgd.jl;rw [←HN.out] at hjl_j1;clear hgd;obtain ⟨n1,HQn1⟩:=exh_ t1.kids.length;rw [←HQn1.out];have HBW6:Hid (Below wr.heap.size wr w6):=HBW.out.trans (hb2.mono HBW.out.size);replace X6:=kX hb2 X6;replace Xb7:=kX hb2 Xb7;replace HB:=kB HB hb2;clear hb2 hV hq HC;obtain ⟨w7,hw7⟩:=ex_ (((((((w6.setCell ⟨b7,0,none⟩ (.int .i64 t1.op)).setCell ⟨b7,1,none⟩ (.int .i64 t1.num)).setCell ⟨b7,2,none⟩ (.string t1.name)).setCell ⟨b7,3,none⟩ (.slice A1 n1 c1)).setCell ⟨b7,4,none⟩ (.int .i64 (j1:Nat))).setCell ⟨b7,5,none⟩ (.int .i64 0)));have nb7:b7≠b6:=NEb7.out;have YX6:Hid (w7.heap[b6]?=some (.cells #[.int .i64 0,.int .i64 0,.string ⟨#[]⟩,.slice none 0 0,.int .i64 0,.int .i64 0] 140 (0,0))):=by show _=_;rw [hw7];exact (sets6_far nb7.symm).trans X6.out
    have YX7:Hid (w7.heap[b7]?=some (.cells #[.int .i64 t1.op,.int .i64 t1.num,.string t1.name,.slice A1 n1 c1,.int .i64 (j1:Nat),.int .i64 0] 140 (0,0))):=by show _=_;rw [hw7];exact res6 Xb7.out
    have YV1:Hid (TmVS (fun q=>b7<q) w7 A1 c1 t1):=by show TmVS _ _ _ _ _;rw [hw7];exact HV1.out.keep (keep6 (by simp)) (fun q _ h=>h)
    have Qw7:=Hd hw7;clear hw7;have HBS:Hid (Below wr.heap.size wr ((((((w6.setCell ⟨b7,0,none⟩ (.int .i64 t1.op)).setCell ⟨b7,1,none⟩ (.int .i64 t1.num)).setCell ⟨b7,2,none⟩ (.string t1.name)).setCell ⟨b7,3,none⟩ (.slice A1 n1 c1)).setCell ⟨b7,4,none⟩ (.int .i64 (j1:Nat))).setCell ⟨b7,5,none⟩ (.int .i64 0))):=below6 HBW6.out (by have:=Qb7.out;omega);obtain ⟨n,hnn⟩:=ex_ acc.length;have HNN:=Hd hnn;have HO7:Hid (((((((w6.setCell ⟨b7,0,none⟩ (.int .i64 t1.op)).setCell ⟨b7,1,none⟩ (.int .i64 t1.num)).setCell ⟨b7,2,none⟩ (.string t1.name)).setCell ⟨b7,3,none⟩ (.slice A1 n1 c1)).setCell ⟨b7,4,none⟩ (.int .i64 (j1:Nat))).setCell ⟨b7,5,none⟩ (.int .i64 0)).ownsRow (b6+1) 25 4 u11 n (flatE acc)):=by show World.ownsRow _ _ _ _ _ _ _;rw [hnn];exact own_below HS.out.b.own HBS.out
    have hcnt:=HS.out.cnt;rw [←hnn] at hcnt;have hsz7:((((((w6.setCell ⟨b7,0,none⟩ (.int .i64 t1.op)).setCell ⟨b7,1,none⟩ (.int .i64 t1.num)).setCell ⟨b7,2,none⟩ (.string t1.name)).setCell ⟨b7,3,none⟩ (.slice A1 n1 c1)).setCell ⟨b7,4,none⟩ (.int .i64 (j1:Nat))).setCell ⟨b7,5,none⟩ (.int .i64 0)).heap.size=w6.heap.size:=by simp
    clear hnn;obtain ⟨i0,hi0,hz0,hz1,hz2⟩:=info_parts infoTm;obtain ⟨u0,u1,u2,u3,u4,u5,uzq⟩:=q6 Xb7.out;have ul:b7<w6.heap.size:=lH Xb7.out
    go_wp2_with (at_builtin;refine wpList_append_lies _ (by rfl) _ _ _ (by rfl) (b6+1) 25 i0 (.agg #[.int .i64 0,.int .i64 0,.string ⟨#[]⟩,.slice none 0 0]) 4 56 Tryz.underlying23 hi0 hz0 hz1 hz2 rfl (by decide) _ n _ (by rfl) (HO7.out.alloc _) ⟨w6.heap.size,0,none⟩ 1 1 [.int .i64 t1.op,.int .i64 t1.num,.string t1.name,.slice A1 n1 c1] (by rfl) rfl (World.news_of_block (by rw [←hsz7];exact hA_ _ _)) (fun u hu=>by simp at hu;rcases hu with rfl | rfl | rfl | rfl <;> rfl) (by decide) ?c3 ?c4 ?c5 (w6.heap.size+1) (by simp) ?_)
    case c3=>unfold maxLen;omega
    case c4=>omega
    case c5=>simp;have:=lH X6.out;omega
    intro g cap w8 hown8 hgrow8 hat8 hlt8;clear u0 uzq u1 u2 u3 u4 u5 ul
    have hBb:=HS.out.b.next (acc:=acc) (t:=t1) (A':=A1) (c':=c1) HB6.out HBS.out ((HV1.out.keep (keep6 (by simp)) (fun q _ h=>by have:=Qb7.out;omega))) (by rw [←HNN.out];unfold TmE.cells;simp only;rw [←HQn1.out];exact hown8) hgrow8 (by
     rcases hat8 with h | h
     · exact .inl h.symm
     · refine .inr (fun q hq=>?_);have e:g=q:=by simpa [Value.ownBlock] using hq
       simp
       omega)
    have hown7:u11.ownBlock≠some b7:=fun e=>by have:=(HS.out.b.own.lt b7 e).2;have:=Qb7.out;omega
    have Yb7:Hid (w8.heap[b7]?=some (.cells #[.int .i64 t1.op,.int .i64 t1.num,.string t1.name,.slice A1 n1 c1,.int .i64 (j1:Nat),.int .i64 0] 140 (0,0))):=by
     show _=_;refine (hgrow8.block b7 (by simp;have:=lH Xb7.out;omega) (fun e=>hown7 e.symm)).trans ?_;exact aK (res6 Xb7.out)
    clear Xb7 X6 HB HV1 hown8 hgrow8 hat8 hown7 HO7 HBS YX6 YX7 YV1 Qw7 HBW6 HBW;have Xb7:=Yb7;have HBb:=Hd hBb;have X6:=Hd hBb.x6;have HB:=Hd hBb.below;clear Yb7 hBb;obtain ⟨m,HM⟩:=exh_ (n+1);rw [←HM.out];rw [←HM.out] at HBb;have hI:=rpsign_any A c j1 l ⟨#[38]⟩ w8 (HP.out.below HB.out) (by omega);rw [←HN.out] at hI;have hw9:whichOp l j1 [6]=if isTk l j1 4 [38] then 6 else 0:=rfl
    by_cases hcl:isTk l j1 4 [38]=true
    · rw [show isTk l j1 4 (bs ⟨#[38]⟩)=true from hcl] at hI;rw [iP hcl] at hw9;have HC:=Hd hI;have hjl2:=isTk_lt hcl;obtain ⟨fu,hfu⟩:∃ fu,fuel=fu+1:=⟨fuel - 1,by have:=HS.out.fu;omega⟩
      have HRN:Hid (((HI1P (j1+1)).then fun u j=>manyF l 6 HI1P fu ((acc++[TmE.mk t1 A1 c1]).map TmE.t++[u]) j)=r):=by
       show _=_;rw [←HGO.out,hfu,many_go (by rw [hw9];decide),List.map_append]
       rfl
      have HFU:Hid (l.length≤fu+(j1+1)):=by show _≤_;have:=HS.out.fu;omega
      clear hI hcl hw9 hfu;obtain ⟨u0,u1,u2,u3,u4,u5,uzq⟩:=q6 Xb7.out;have ul:b7<w8.heap.size:=lH Xb7.out;go_wp2_with fail;refine (HC.out).mono ?_;rintro e w' ⟨rfl,hww⟩;rw [hww];clear hww HC;go_wp2_with fail;clear u0 uzq u1 u2 u3 u4 u5 ul
      go_roundw
      case rel=>exact ⟨acc++[⟨t1,A1,c1⟩],j1+1,fu,by go_num,⟨HBb.out,by rw [List.length_append,←HNN.out];simp;omega,by have:=HN.out;omega,HFU.out,HRN.out⟩⟩
      case measure=>simp [intOf];have:=HN.out;omega
    · have hcf:isTk l j1 4 [38]=false:=by simpa using hcl
      rw [iN hcl] at hw9;rw [show isTk l j1 4 (bs ⟨#[38]⟩)=false from hcf] at hI;have HC:=Hd hI;have HRR:Hid (F=GQ w (.ok (manyEnd 6 ((acc++[TmE.mk t1 A1 c1]).map TmE.t)) j1)):=by show _=_;rw [HRE.out,←HGO.out,many_stop hw9,List.map_append];rfl
      clear hI hcl hcf hw9
      by_cases hm1:m=1
      · subst hm1;obtain rfl:acc=[]:=List.eq_nil_of_length_eq_zero (by have:=HM.out;have:=HNN.out;omega);obtain ⟨y0,y1,y2,y3⟩:=HBb.out.one;obtain ⟨u0,u1,u2,u3,u4,u5,uzq⟩:=q6 Xb7.out;have ul:b7<w8.heap.size:=lH Xb7.out;obtain ⟨v0,v1,v2,v3,v4,v5,vzq⟩:=q6 X6.out;have vl:b6<w8.heap.size:=lH X6.out;go_wp2_with fail;refine (HC.out).mono ?_;rintro e w' ⟨rfl,hww⟩;rw [hww];clear hww HC;go_wp2_with fail;clear u0 uzq u1 u2 u3 u4 u5 ul v0 vzq v1 v2 v3 v4 v5 vl;clear y0 y1 y2 y3;refine bR (rcG (res6 X6.out)) rfl ?_;rw [HRR.out];exact gq_end (r:=.ok t1 j1) (A':=A1) (c':=c1) _ _ _ _ _ _ HB6.out ((HBb.out.vals ⟨t1,A1,c1⟩ (by simp)).keep Kr (fun q _ h=>by have:=h.1;have:=HB6.out;omega)) HB.out
      · have hmb:((m:Int) == 1)=false:=by simp;omega
        have HM1:Hid (m≠1):=hm1;clear hm1;have hml:((acc++[TmE.mk t1 A1 c1]).map TmE.t).length=m:=by rw [List.length_map,List.length_append,←HNN.out,HM.out];rfl
        have HMV:=Hd (HBb.out.many (op:=6) HB6.out);have HML:=Hd hml;clear hml;obtain ⟨u0,u1,u2,u3,u4,u5,uzq⟩:=q6 Xb7.out;have ul:b7<w8.heap.size:=lH Xb7.out;obtain ⟨v0,v1,v2,v3,v4,v5,vzq⟩:=q6 X6.out;have vl:b6<w8.heap.size:=lH X6.out;go_wp2_with fail;refine (HC.out).mono ?_;rintro e w' ⟨rfl,hww⟩;rw [hww];clear hww HC;go_wp2_with fail;clear u0 uzq u1 u2 u3 u4 u5 ul v0 vzq v1 v2 v3 v4 v5 vl;refine bR (rcG (res6 X6.out)) rfl ?_;rw [HRR.out,manyEnd_two (by rw [HML.out];exact HM1.out)];have hend:=gq_end (r:=.ok (tmOf 6 ((acc++[TmE.mk t1 A1 c1]).map TmE.t)) j1) (A':=some ⟨g,0,none⟩) (c':=cap) (.int .i64 6) (.int .i64 0) (.string ⟨#[]⟩) (.slice (some ⟨g,0,none⟩) m cap) (.int .i64 (j1:Nat)) (.int .i64 0) HB6.out HMV.out HB.out;have hk:(gotT (.ok (tmOf 6 ((acc++[TmE.mk t1 A1 c1]).map TmE.t)) j1)).kids.length=m:=HML.out;rw [hk] at hend;exact hend
end Go.Proofs.YtnbphgeepnknlaaGreatDoor
