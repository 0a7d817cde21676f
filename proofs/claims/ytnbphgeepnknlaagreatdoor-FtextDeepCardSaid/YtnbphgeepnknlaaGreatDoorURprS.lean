/- Walks and plain words: RprS RprT. -/
import Derived.Test.YtnbphgeepnknlaaGreatDoorURprH
namespace Go.Proofs.YtnbphgeepnknlaaGreatDoor
open Go.RowKit
set_option linter.unusedVariables false
def jAt (b:Nat) (w:World):Nat:=match w.cell? ⟨b,4,none⟩ with
 | some (.int _ z)=>z.toNat
 | _=>0
structure SumS (w:World) (l:List Tok) (i b6 b7:Nat) (one:Par) (ops:List Int) (r:Rs Tm) (wr:World) (ra:Rs Tm) (A':Option Addr) (c' fuel:Nat):Prop where
 x6:wr.heap[b6]?=some (.cells #[.int .i64 0,.int .i64 0,.string ⟨#[]⟩,.slice none 0 0,.int .i64 0,.int .i64 0] 140 (0,0))
 x7:wr.heap[b7]?=some (.cells #[.int .i64 (gotT ra).op,.int .i64 (gotT ra).num,.string (gotT ra).name,.slice A' (gotT ra).kids.length c',.int .i64 (gotI ra:Nat),.int .i64 (gotE ra)] 140 (0,0))
 v:TmVS (fun q=>b7<q) wr A' c' (gotT ra)
 below:Below w.heap.size w wr
 ok:∀ t j,ra=.ok t j→i<j∧j≤l.length∧l.length≤fuel+j
 bad:∀ j x,ra=.bad j x→x≠0
 re:(ra.then fun t j=>leftL l one ops fuel t j)=r
theorem jAt_of {b:Nat} {w:World} {u0 u1 u2 u3 u5:Value} {j:Nat} (h:w.heap[b]?=some (.cells #[u0,u1,u2,u3,.int .i64 (j:Nat),u5] 140 (0,0))):jAt b w=j:=by
 unfold jAt;rw [(cells6 h).2.2.2.2.1.1];simp
theorem SumS.set {w W:World} {l:List Tok} {i b6 b7:Nat} {one:Par} {ops:List Int} {r ra:Rs Tm} {A':Option Addr} {c' fuel:Nat} {u0 u1 u2 u3 u4 u5:Value} (hb:b6=w.heap.size) (hne:b6<b7) (x6:W.heap[b6]?=some (.cells #[.int .i64 0,.int .i64 0,.string ⟨#[]⟩,.slice none 0 0,.int .i64 0,.int .i64 0] 140 (0,0))) (x7:W.heap[b7]?=some (.cells #[u0,u1,u2,u3,u4,u5] 140 (0,0))) (v:TmVS (fun q=>b7<q) W A' c' (gotT ra)) (below:Below w.heap.size w W) (ok:∀ t j,ra=.ok t j→i<j∧j≤l.length∧l.length≤fuel+j) (bad:∀ j x,ra=.bad j x→x≠0) (re:(ra.then fun t j=>leftL l one ops fuel t j)=r) :
 SumS w l i b6 b7 one ops r ((((((W.setCell ⟨b7,0,none⟩ (.int .i64 (gotT ra).op)).setCell ⟨b7,1,none⟩ (.int .i64 (gotT ra).num)).setCell ⟨b7,2,none⟩ (.string (gotT ra).name)).setCell ⟨b7,3,none⟩ (.slice A' (gotT ra).kids.length c')).setCell ⟨b7,4,none⟩ (.int .i64 (gotI ra:Nat))).setCell ⟨b7,5,none⟩ (.int .i64 (gotE ra))) ra A' c' fuel:=by
 have h0:w.heap.size≤b7:=by omega
 refine ⟨(sets6_far (by omega)).trans x6,res6 x7,?_,?_,ok,bad,re⟩
 · exact v.keep ((((((KeepS.refl.set (by simp) _).set (by simp) _).set (by simp) _).set (by simp) _).set (by simp) _).set (by simp) _) (fun q _ h=>h)
 · exact ((((((Ob (F:=fun q=>w.heap.size≤q) below).setF h0 _).setF h0 _).setF h0 _).setF h0 _).setF h0 _).setF h0 _ |>.below (fun q h=>h) (lr _)
theorem gq_end2 {w W:World} {b6 b8:Nat} {r:Rs Tm} {A':Option Addr} {c':Nat} (u0 u1 u2 u3 u4 u5 v0 v1 v2 v3 v4 v5:Value) (hb:b6=w.heap.size) (h8:w.heap.size<b8) (hV:TmVS (fun q=>b8<q) W A' c' (gotT r)) (hB:Below w.heap.size w W) :
 GQ w r (.returned (.agg #[.int .i64 (gotT r).op,.int .i64 (gotT r).num,.string (gotT r).name,.slice A' (gotT r).kids.length c',.int .i64 (gotI r:Nat),.int .i64 (gotE r)])) ((((((((((((W.setCell ⟨b8,0,none⟩ (u0)).setCell ⟨b8,1,none⟩ (u1)).setCell ⟨b8,2,none⟩ (u2)).setCell ⟨b8,3,none⟩ (u3)).setCell ⟨b8,4,none⟩ (u4)).setCell ⟨b8,5,none⟩ (u5)).setCell ⟨b6,0,none⟩ (v0)).setCell ⟨b6,1,none⟩ (v1)).setCell ⟨b6,2,none⟩ (v2)).setCell ⟨b6,3,none⟩ (v3)).setCell ⟨b6,4,none⟩ (v4)).setCell ⟨b6,5,none⟩ (v5)):=by
 have h0:w.heap.size≤b8:=by omega
 refine gq_end v0 v1 v2 v3 v4 v5 hb ?_ ?_
 · exact hV.keep ((((((KeepS.refl.set (by omega) _).set (by omega) _).set (by omega) _).set (by omega) _).set (by omega) _).set (by omega) _) (fun q _ h=>by omega)
 · exact ((((((Ob (F:=fun q=>w.heap.size≤q) hB).setF h0 _).setF h0 _).setF h0 _).setF h0 _).setF h0 _).setF h0 _ |>.below (fun q h=>h) (lr _)
theorem keep6 {S:Nat→Prop} {W:World} {b:Nat} {v0 v1 v2 v3 v4 v5:Value} (h:¬S b):KeepS S W ((((((W.setCell ⟨b,0,none⟩ (v0)).setCell ⟨b,1,none⟩ (v1)).setCell ⟨b,2,none⟩ (v2)).setCell ⟨b,3,none⟩ (v3)).setCell ⟨b,4,none⟩ (v4)).setCell ⟨b,5,none⟩ (v5)):=((((((KeepS.refl.set h _).set h _).set h _).set h _).set h _).set h _)
theorem below6 {w W:World} {b:Nat} {v0 v1 v2 v3 v4 v5:Value} (hB:Below w.heap.size w W) (h0:w.heap.size≤b):Below w.heap.size w ((((((W.setCell ⟨b,0,none⟩ (v0)).setCell ⟨b,1,none⟩ (v1)).setCell ⟨b,2,none⟩ (v2)).setCell ⟨b,3,none⟩ (v3)).setCell ⟨b,4,none⟩ (v4)).setCell ⟨b,5,none⟩ (v5)):=((((((Ob (F:=fun q=>w.heap.size≤q) hB).setF h0 _).setF h0 _).setF h0 _).setF h0 _).setF h0 _).setF h0 _ |>.below (fun q h=>h) (lr _)
theorem left_fuel {l:List Tok} {one:Par} {ops:List Int} {i:Nat}:left l one ops i=(one i).then fun t j=>leftL l one ops l.length t j:=rfl
set_option linter.unusedSimpArgs false
set_option maxRecDepth 100000
set_option maxHeartbeats 1000000
theorem tLRprT {o:Array Oper} {i:Nat} {x:Oper} (h:o.toList[i]?=some x):o[i]?=some x:=by simpa using h
theorem rpsum_true (l:List Tok) (d:Nat) (P:Par) (hd:d≤256) (hF:FnR l d 229 P) (hG:GdP l P) (hZ:NzP P):FnRB l d 226 true (left l P [16,17]):=by
 intro A c i w hi hP;obtain ⟨n,b6,w1,F,hlen,hlc,hcm,hs1,X6,HB,HP,HP1,HS,HI,HF,HN,HB6,HW1⟩:=rset A c l w hP (GQ w (left l P [16,17] i));rw [←HF.out,←HN.out];rw [←HN.out] at hi;clear hP
 have HI1:Hid (∀ (i:Nat) (W:World),i≤l.length→TokIn W A c l→Calls Tryz.prog 229 #[.slice A n c,.int .i64 (i:Nat),.int .i64 ((d:Nat):Int)] W (GQ W (P i))):=by
  intro i W h1 h2;have:=hF A c i W h1 h2;rw [←HN.out] at this;exact this
 obtain ⟨HI1P,HQHI1⟩:=exh_ P;rw [←HQHI1.out] at HI1;have HI1G:Hid (GdP l HI1P):=by show GdP _ _;rw [HQHI1.out];exact hG
 have HI1Z:Hid (NzP HI1P):=by show NzP _;rw [HQHI1.out];exact hZ
 clear hF hG hZ;go_enter Tryz.func226,Tryz.ntmps226;obtain ⟨b7,hb7⟩:=ex_ w1.heap.size;obtain ⟨w2,hw2⟩:=ex_ (w1.alloc (.cells #[.int .i64 0,.int .i64 0,.string ⟨#[]⟩,.slice none 0 0,.int .i64 0,.int .i64 0] 140));have Xb7:=nAl hw2 hb7;have NEb7:Hid (b7≠b6):=by show _≠_;have:=lH X6.out;omega
 have hal:=bAl hw2;have Qb7:=Hd hb7;have Qw2:=Hd hw2;clear hb7 hw2;have NLT:Hid (b6<b7):=by show _<_;have:=Qb7.out;omega
 replace X6:=kX hal X6;replace HB:=kB HB hal;clear hal;have hcf:=HI1.out (i) w2 (by first | omega | (rw [←HN.out];omega)) (HP.out.below HB.out);obtain ⟨r1,HRr1⟩:=exh_ (HI1P (i));rw [←HRr1.out] at hcf;have HC:=Hd hcf;have HGr1:Hid (∀ x k,r1=.ok x k→Gd l (i) x k):=fun x k h=>HI1G.out (i) x k (by rw [←HRr1.out];exact h);have HZr1:Hid (∀ k x,r1=.bad k x→x≠0):=fun k x h=>HI1Z.out (i) k x (by rw [←HRr1.out];exact h);clear hcf;go_wp2_with fail;rw [←HW1.out,←Qw2.out,show w.heap.size+1=b7 from by have:=Qb7.out;have:=HB6.out;omega]
 try rw [←HB6.out]
 refine (HC.out).mono ?_;intro e w3 hq;have HRE:Hid (F=GQ w (left l P [16,17] i)):=HF;obtain ⟨r,hr⟩:=ex_ (left l P [16,17] i);rw [←hr] at HRE;rw [left_fuel,←HQHI1.out,←HRr1.out] at hr;obtain ⟨A',c',rfl,hV,hb2⟩:=hq;have HV:Hid (TmVS (fun q=>b7<q) w3 A' c' (gotT r1)):=hV.keep Kr (fun q _ h=>by have:=lH Xb7.out;omega);replace X6:=kX hb2 X6;replace Xb7:=kX hb2 Xb7;replace HB:=kB HB hb2;have hS0:=SumS.set (i:=i) (one:=HI1P) (ops:=[16,17]) (fuel:=l.length) (ra:=r1) (r:=r) HB6.out (by have:=HB6.out;have:=Qb7.out;have:=HB.out.size;have:=lH X6.out;omega) X6.out Xb7.out HV.out HB.out (fun t j h=>by have:=HGr1.out t j h;exact ⟨this.ij,this.jl,by omega⟩) (HZr1.out) hr.symm;clear hb2 hV HC hr;obtain ⟨w4,Qw4⟩:=exh_ (((((((w3.setCell ⟨b7,0,none⟩ (.int .i64 (gotT r1).op)).setCell ⟨b7,1,none⟩ (.int .i64 (gotT r1).num)).setCell ⟨b7,2,none⟩ (.string (gotT r1).name)).setCell ⟨b7,3,none⟩ (.slice A' (gotT r1).kids.length c')).setCell ⟨b7,4,none⟩ (.int .i64 (gotI r1:Nat))).setCell ⟨b7,5,none⟩ (.int .i64 (gotE r1))));rw [←Qw4.out] at hS0;have HS0:=Hd hS0;clear hS0;obtain ⟨n1,hn1⟩:=ex_ ((gotT r1).kids.length);have HQn1:=Hd hn1;rw [←hn1];obtain ⟨u0,u1,u2,u3,u4,u5,uzq⟩:=q6 Xb7.out;have ul:b7<w3.heap.size:=lH Xb7.out;obtain ⟨v0,v1,v2,v3,v4,v5,vzq⟩:=q6 X6.out;have vl:b6<w3.heap.size:=lH X6.out;go_wp2_with fail
 clear u0 uzq u1 u2 u3 u4 u5 ul v0 vzq v1 v2 v3 v4 v5 vl
 try rw [hn1]
 rw [←Qw4.out];clear hn1
 go_loopw [10] (fun sv wr=>∃ (ra:Rs Tm) (A':Option Addr) (c' fuel:Nat),SumS w l i b6 b7 HI1P [16,17] r wr ra A' c' fuel) (fun _ wr=>l.length - jAt b7 wr)
 case atStart=>exact ⟨r1,A',c',l.length,HS0.out⟩
 case round=>
  obtain ⟨ra,A',c',fuel,hS⟩:=hrel;have HS:=Hd hS;clear hS X6 Xb7 HV HB HS0 Qw4 HQn1;have X6:=Hd HS.out.x6;have Xb7:=Hd HS.out.x7;have HB:=Hd HS.out.below;have nb7:b7≠b6:=NEb7.out
  rcases ra with ⟨jb,xb⟩ | ⟨t1,j1⟩
  · have HRR:Hid (F=GQ w (.bad jb xb)):=by show _=_;rw [HRE.out,←HS.out.re];rfl
    have hx:=HS.out.bad jb xb rfl;have hxb:(xb == 0)=false:=by simpa using hx
    replace Xb7:Hid (wr.heap[b7]?=some (.cells #[.int .i64 0,.int .i64 0,.string ⟨#[]⟩,.slice A' 0 c',.int .i64 (jb:Nat),.int .i64 xb] 140 (0,0))):=Xb7;have HV:Hid (TmVS (fun q=>w.heap.size<q) wr A' c' zeroTm):=HS.out.v.keep Kr (fun q _ h=>by have:=HB6.out;have:=NLT.out;omega);clear hx;obtain ⟨u0,u1,u2,u3,u4,u5,uzq⟩:=q6 Xb7.out;have ul:b7<wr.heap.size:=lH Xb7.out;obtain ⟨v0,v1,v2,v3,v4,v5,vzq⟩:=q6 X6.out;have vl:b6<wr.heap.size:=lH X6.out;go_wp2_with fail;clear u0 uzq u1 u2 u3 u4 u5 ul v0 vzq v1 v2 v3 v4 v5 vl;refine bR (rcG (res6 X6.out)) rfl ?_;rw [HRR.out];exact gq_end (r:=.bad jb xb) (A':=A') (c':=c') _ _ _ _ _ _ HB6.out HV.out HB.out
  · obtain ⟨A1,hA1⟩:=ex_ A';obtain ⟨c1,hc1⟩:=ex_ c';obtain ⟨n1,hn1⟩:=ex_ t1.kids.length;have HQn1:=Hd hn1;replace Xb7:Hid (wr.heap[b7]?=some (.cells #[.int .i64 t1.op,.int .i64 t1.num,.string t1.name,.slice A1 n1 c1,.int .i64 (j1:Nat),.int .i64 0] 140 (0,0))):=by show _=_;rw [hA1,hc1,hn1];exact Xb7.out
    have HV1:Hid (TmVS (fun q=>b7<q) wr A1 c1 t1):=by show TmVS _ _ _ _ _;rw [hA1,hc1];exact HS.out.v
    have HGO:Hid (leftL l HI1P [16,17] fuel t1 j1=r):=HS.out.re;have hok:=HS.out.ok t1 j1 rfl;have hij_j1:=hok.1;have hjl_j1:=hok.2.1;have HFU:=Hd hok.2.2;have HJA:Hid (jAt b7 wr=j1):=jAt_of Xb7.out;rw [←HN.out] at hjl_j1;clear hok HS hA1 hc1 hn1;obtain ⟨gtp,hgtp⟩:=ex_ wr.heap.size;obtain ⟨sp,hsp⟩:=ex_ (wr.alloc (.cells #[.string ⟨#[43]⟩,.string ⟨#[45]⟩] 9));have hbsp:=bAl hsp;have hxsp:sp.heap[gtp]?=some (.cells #[.string ⟨#[43]⟩,.string ⟨#[45]⟩] 9 (0,0)):=by rw [hsp,hgtp];exact hA_ wr _
    obtain ⟨gop,hgop⟩:=ex_ sp.heap.size;obtain ⟨tp,htp⟩:=ex_ (sp.alloc (.cells #[.int .i64 14,.int .i64 15] 3));have hbtp:=bAl htp;have hbel2:Below wr.heap.size wr tp:=hbsp.trans (hbtp.mono hbsp.size);have hO:OpsAt tp gop [14,15]:=by rw [htp,hgop];exact ops_new sp [14,15]
    have hxtp:tp.heap[gtp]?=some (.cells #[.string ⟨#[43]⟩,.string ⟨#[45]⟩] 9 (0,0)):=(hbtp.block gtp (lH hxsp)).trans hxsp
    have hwh:=rpwhich_any A c j1 l [14,15] gtp gop 2 2 tp (HP.out.below (HB.out.trans (hbel2.mono HB.out.size))) (by omega) (by decide) (fun k op hop=>by
     rw [cR tp gtp k _ _ (0,0) hxtp];have hk:=(gE.1 hop).1;simp only [List.length_cons,List.length_nil] at hk;have hk2:k=0∨k=1:=by omega
     rcases hk2 with rfl | rfl
     all_goals
      simp at hop;subst hop
      rfl) hO (by decide)
    rw [←HN.out] at hwh;have HC:=Hd hwh;have Qgtp:=Hd hgtp;have Qgop:Hid (gop=wr.heap.size+1):=by show _=_;rw [hgop,hsp];simp
    have Qsp:=Hd hsp;have Qtp:=Hd htp;obtain ⟨u0,u1,u2,u3,u4,u5,uzq⟩:=q6 Xb7.out;have ul:b7<wr.heap.size:=lH Xb7.out;clear hwh hgtp hgop hsp htp hO hxsp hxtp hbsp hbtp;go_wp2_with fail;rw [←Qsp.out,←Qtp.out,←Qgop.out,←Qgtp.out];clear u0 uzq u1 u2 u3 u4 u5 ul;replace X6:=kX hbel2 X6;replace Xb7:=kX hbel2 Xb7;replace HV1:Hid (TmVS (fun q=>b7<q) tp A1 c1 t1):=HV1.out.keep (Kb hbel2) (fun _ _ h=>h);replace HB:=kB HB hbel2;clear hbel2;refine (HC.out).mono ?_;rintro e w' ⟨rfl,hww⟩;rw [hww];clear hww HC;obtain ⟨zp,hzp⟩:=ex_ (whichOp l j1 [14,15]);rw [←hzp];clear hzp;obtain ⟨gtq,hgtq⟩:=ex_ tp.heap.size;obtain ⟨sq,hsq⟩:=ex_ (tp.alloc (.cells #[.string ⟨#[42]⟩,.string ⟨#[109,111,100]⟩] 9));have hbsq:=bAl hsq;have hxsq:sq.heap[gtq]?=some (.cells #[.string ⟨#[42]⟩,.string ⟨#[109,111,100]⟩] 9 (0,0)):=by rw [hsq,hgtq];exact hA_ tp _
    obtain ⟨goq,hgoq⟩:=ex_ sq.heap.size;obtain ⟨tq,htq⟩:=ex_ (sq.alloc (.cells #[.int .i64 16,.int .i64 17] 3));have hbtq:=bAl htq;have hbel2:Below tp.heap.size tp tq:=hbsq.trans (hbtq.mono hbsq.size);have hO:OpsAt tq goq [16,17]:=by rw [htq,hgoq];exact ops_new sq [16,17]
    have hxtq:tq.heap[gtq]?=some (.cells #[.string ⟨#[42]⟩,.string ⟨#[109,111,100]⟩] 9 (0,0)):=(hbtq.block gtq (lH hxsq)).trans hxsq
    have hwh:=rpwhich_any A c j1 l [16,17] gtq goq 2 2 tq (HP.out.below (HB.out.trans (hbel2.mono HB.out.size))) (by omega) (by decide) (fun k op hop=>by
     rw [cR tq gtq k _ _ (0,0) hxtq];have hk:=(gE.1 hop).1;simp only [List.length_cons,List.length_nil] at hk;have hk2:k=0∨k=1:=by omega
     rcases hk2 with rfl | rfl
     all_goals
      simp at hop;subst hop
      rfl) hO (by decide)
    rw [←HN.out] at hwh;have HC:=Hd hwh;have Qgtq:=Hd hgtq;have Qgoq:Hid (goq=tp.heap.size+1):=by show _=_;rw [hgoq,hsq];simp
    have Qsq:=Hd hsq;have Qtq:=Hd htq;obtain ⟨u0,u1,u2,u3,u4,u5,uzq⟩:=q6 Xb7.out;have ul:b7<tp.heap.size:=lH Xb7.out;clear hwh hgtq hgoq hsq htq hO hxsq hxtq hbsq hbtq;go_wp2_with fail;rw [←Qsq.out,←Qtq.out,←Qgoq.out,←Qgtq.out];clear u0 uzq u1 u2 u3 u4 u5 ul;replace X6:=kX hbel2 X6;replace Xb7:=kX hbel2 Xb7;replace HV1:Hid (TmVS (fun q=>b7<q) tq A1 c1 t1):=HV1.out.keep (Kb hbel2) (fun _ _ h=>h);replace HB:=kB HB hbel2;clear hbel2;refine (HC.out).mono ?_;rintro e w' ⟨rfl,hww⟩;rw [hww];clear hww HC
    by_cases hz:whichOp l j1 [16,17]=0
    · have HRR:Hid (F=GQ w (.ok t1 j1)):=by show _=_;rw [HRE.out,←HGO.out,left_stop hz]
      rw [hz];clear hz;obtain ⟨u0,u1,u2,u3,u4,u5,uzq⟩:=q6 Xb7.out;have ul:b7<tq.heap.size:=lH Xb7.out;obtain ⟨v0,v1,v2,v3,v4,v5,vzq⟩:=q6 X6.out;have vl:b6<tq.heap.size:=lH X6.out;go_wp2_with fail;clear u0 uzq u1 u2 u3 u4 u5 ul v0 vzq v1 v2 v3 v4 v5 vl;refine bR (rcG (res6 X6.out)) rfl ?_;rw [HRR.out,HQn1.out];exact gq_end (r:=.ok t1 j1) (A':=A1) (c':=c1) _ _ _ _ _ _ HB6.out (HV1.out.keep Kr (fun q _ h=>by have:=HB6.out;have:=NLT.out;omega)) HB.out
    · have hjl2:=which_lt hz;rw [←HN.out] at hjl2;obtain ⟨fu,hfu⟩:∃ fu,fuel=fu+1:=⟨fuel - 1,by have:=HFU.out;have:=HN.out;omega⟩;have HFU2:Hid (l.length≤fu+1+j1):=by show _≤_;have:=HFU.out;omega
      have HGO2:Hid ((HI1P (j1+1)).then (fun u k=>leftL l HI1P [16,17] fu (tmOf (whichOp l j1 [16,17]) [t1,u]) k)=r):=by show _=_;rw [←HGO.out,hfu,left_go hz]
      obtain ⟨zz,hzz⟩:=ex_ (whichOp l j1 [16,17]);rw [←hzz] at hz HGO2 ⊢;have hzb:(zz == 0)=false:=by simpa using hz
      clear hz hzz hfu HFU HGO;obtain ⟨u0,u1,u2,u3,u4,u5,uzq⟩:=q6 Xb7.out;have ul:b7<tq.heap.size:=lH Xb7.out;have X7L:Hid (b7<tq.heap.size):=lH Xb7.out;obtain ⟨b8,hb8⟩:=ex_ tq.heap.size;obtain ⟨w5,hw5⟩:=ex_ (tq.alloc (.cells #[.int .i64 0,.int .i64 0,.string ⟨#[]⟩,.slice none 0 0,.int .i64 0,.int .i64 0] 140));have Xb8:=nAl hw5 hb8;have NEb8:Hid (b8≠b6):=by show _≠_;have:=lH X6.out;omega
      have hal:=bAl hw5;have Qb8:=Hd hb8;have Qw5:=Hd hw5;clear hb8 hw5;replace HV1:Hid (TmVS (fun q=>b7<q∧q≠b8) tq A1 c1 t1):=HV1.out.keep Kr (fun q hq h=>⟨h,by have:=Qb8.out;omega⟩);replace X6:=kX hal X6;replace Xb7:=kX hal Xb7;replace HV1:Hid (TmVS (fun q=>b7<q∧q≠b8) w5 A1 c1 t1):=HV1.out.keep (Kb hal) (fun _ _ h=>h);replace HB:=kB HB hal;have NB8:Hid (b8≠b7):=by show _≠_;have:=Qb8.out;have:=lH Xb7.out;have:=hal.size;have:b7<tq.heap.size:=X7L.out;omega
      have NL8:Hid (b7<b8):=by show _<_;have:=Qb8.out;have:b7<tq.heap.size:=X7L.out;omega
      clear hal;have hcf:=HI1.out (j1+1) w5 (by first | omega | (rw [←HN.out];omega)) (HP.out.below HB.out);rw [show ((j1+1:Nat):Int)=(j1:Int)+1 from by omega] at hcf;obtain ⟨r2,HRr2⟩:=exh_ (HI1P (j1+1));rw [←HRr2.out] at hcf;have HC:=Hd hcf;have HGr2:Hid (∀ x k,r2=.ok x k→Gd l (j1+1) x k):=fun x k h=>HI1G.out (j1+1) x k (by rw [←HRr2.out];exact h);have HZr2:Hid (∀ k x,r2=.bad k x→x≠0):=fun k x h=>HI1Z.out (j1+1) k x (by rw [←HRr2.out];exact h);clear hcf;go_wp2_with fail;rw [←Qw5.out,←Qb8.out];clear u0 uzq u1 u2 u3 u4 u5 ul;refine (HC.out).mono ?_;intro e w6 hq
      rcases r2 with ⟨jb,xb⟩ | ⟨t2,j2⟩
      · obtain ⟨A2,c2,rfl,hV,hb2⟩:=gq_bad.1 hq;have HRR:Hid (F=GQ w (.bad jb xb)):=by show _=_;rw [HRE.out,←HGO2.out,←HRr2.out];rfl
        have hx:=HZr2.out _ _ rfl;have hxb:(xb != 0)=true:=by simpa using hx
        have HV:Hid (TmVS (fun q=>b8<q) w6 A2 c2 zeroTm):=hV.keep Kr (fun q _ h=>by have:=lH Xb8.out;omega);replace X6:=kX hb2 X6;replace Xb7:=kX hb2 Xb7;replace Xb8:=kX hb2 Xb8;replace HV1:Hid (TmVS (fun q=>b7<q∧q≠b8) w6 A1 c1 t1):=HV1.out.keep (Kb hb2) (fun _ _ h=>h);replace HB:=kB HB hb2;clear hb2 hV hq HC hx;have nb8:b8≠b6:=NEb8.out;obtain ⟨u0,u1,u2,u3,u4,u5,uzq⟩:=q6 Xb8.out;have ul:b8<w6.heap.size:=lH Xb8.out;obtain ⟨v0,v1,v2,v3,v4,v5,vzq⟩:=q6 X6.out;have vl:b6<w6.heap.size:=lH X6.out;go_wp2_with fail;clear u0 uzq u1 u2 u3 u4 u5 ul v0 vzq v1 v2 v3 v4 v5 vl;refine bR (rcG (res6 ((sets6_far nb8.symm).trans X6.out))) rfl ?_;rw [HRR.out];exact gq_end2 (r:=.bad jb xb) (A':=A2) (c':=c2) _ _ _ _ _ _ _ _ _ _ _ _ HB6.out (by have:=HB6.out;have:=NLT.out;have:=NL8.out;omega) HV.out HB.out
      · obtain ⟨A2,c2,rfl,hV,hb2⟩:=gq_ok.1 hq;have HGO3:Hid (leftL l HI1P [16,17] fu (tmOf zz [t1,t2]) j2=r):=by show _=_;rw [←HGO2.out,←HRr2.out];rfl
        have HV2:Hid (TmVS (fun q=>b8<q) w6 A2 c2 t2):=hV.keep Kr (fun q _ h=>by have:=lH Xb8.out;omega);have hgd:=HGr2.out _ _ rfl;have hij_j2:=hgd.ij;have hjl_j2:=hgd.jl;rw [←HN.out] at hjl_j2;clear hgd HGO2;obtain ⟨n2,HQn2⟩:=exh_ t2.kids.length;rw [←HQn2.out];replace X6:=kX hb2 X6;replace Xb7:=kX hb2 Xb7;replace Xb8:=kX hb2 Xb8;replace HV1:Hid (TmVS (fun q=>b7<q∧q≠b8) w6 A1 c1 t1):=HV1.out.keep (Kb hb2) (fun _ _ h=>h);replace HB:=kB HB hb2;clear hb2 hV hq HC;obtain ⟨w7,hw7⟩:=ex_ (((((((w6.setCell ⟨b8,0,none⟩ (.int .i64 t2.op)).setCell ⟨b8,1,none⟩ (.int .i64 t2.num)).setCell ⟨b8,2,none⟩ (.string t2.name)).setCell ⟨b8,3,none⟩ (.slice A2 n2 c2)).setCell ⟨b8,4,none⟩ (.int .i64 (j2:Nat))).setCell ⟨b8,5,none⟩ (.int .i64 0)));have nb8:b8≠b6:=NEb8.out;have nb87:b8≠b7:=NB8.out;have YX6:Hid (w7.heap[b6]?=some (.cells #[.int .i64 0,.int .i64 0,.string ⟨#[]⟩,.slice none 0 0,.int .i64 0,.int .i64 0] 140 (0,0))):=by show _=_;rw [hw7];exact (sets6_far nb8.symm).trans X6.out
        have YX7:Hid (w7.heap[b7]?=some (.cells #[.int .i64 t1.op,.int .i64 t1.num,.string t1.name,.slice A1 n1 c1,.int .i64 (j1:Nat),.int .i64 0] 140 (0,0))):=by show _=_;rw [hw7];exact (sets6_far nb87.symm).trans Xb7.out
        have YX8:Hid (w7.heap[b8]?=some (.cells #[.int .i64 t2.op,.int .i64 t2.num,.string t2.name,.slice A2 n2 c2,.int .i64 (j2:Nat),.int .i64 0] 140 (0,0))):=by show _=_;rw [hw7];exact res6 Xb8.out
        have YV1:Hid (TmVS (fun q=>b7<q) w7 A1 c1 t1):=by show TmVS _ _ _ _ _;rw [hw7];exact HV1.out.keep (keep6 (by simp)) (fun q _ h=>h.1)
        have YV2:Hid (TmVS (fun q=>b7<q) w7 A2 c2 t2):=by show TmVS _ _ _ _ _;rw [hw7];exact HV2.out.keep (keep6 (by simp)) (fun q _ h=>by have:=NL8.out;omega)
        have YB:Hid (Below w.heap.size w w7):=by show Below _ _ _;rw [hw7];exact below6 HB.out (by have:=HB6.out;have:=NLT.out;have:=NL8.out;omega)
        have Qw7:=Hd hw7;clear hw7;obtain ⟨u0,u1,u2,u3,u4,u5,uzq⟩:=q6 Xb8.out;have ul:b8<w6.heap.size:=lH Xb8.out;go_wp2_with fail;rw [←Qw7.out];clear u0 uzq u1 u2 u3 u4 u5 ul X6 Xb7 Xb8 HV1 HV2 HB;have X6:=YX6;have Xb7:=YX7;have Xb8:=YX8;have HV1:=YV1;have HV2:=YV2;have HB:=YB;clear YX6 YX7 YX8 YV1 YV2 YB Qw7;have n87:b8≠b7:=NB8.out;obtain ⟨wd,hwd⟩:=ex_ w7.drew;have hbd:Below w7.heap.size w7 wd:=by rw [hwd];exact (Br _ _).drew
        replace X6:=kX hbd X6;replace Xb7:=kX hbd Xb7;replace Xb8:=kX hbd Xb8;replace HV1:Hid (TmVS (fun q=>b7<q) wd A1 c1 t1):=HV1.out.keep (Kb hbd) (fun _ _ h=>h);replace HV2:Hid (TmVS (fun q=>b7<q) wd A2 c2 t2):=HV2.out.keep (Kb hbd) (fun _ _ h=>h);replace HB:=kB HB hbd
        have HTW:Hid (Calls Tryz.prog 138 #[.int .i64 zz,.agg #[.int .i64 t1.op,.int .i64 t1.num,.string t1.name,.slice A1 n1 c1],.agg #[.int .i64 t2.op,.int .i64 t2.num,.string t2.name,.slice A2 n2 c2]] wd fun e w'=>∃ g,e=.returned (.agg #[.int .i64 zz,.int .i64 0,.string ⟨#[]⟩,.slice (some ⟨g,0,none⟩) 2 2])∧TmVS (fun q=>b7<q) w' (some ⟨g,0,none⟩) 2 (tmOf zz [t1,t2])∧Below wd.heap.size wd w'):=by
         have h:=rptwo_any zz t1 t2 A1 c1 A2 c2 (b7+1) wd (by have:=lH Xb7.out;omega) HV1.out HV2.out;unfold Tm.val at h;rw [←HQn1.out,←HQn2.out] at h;exact h
        refine wp_region_held_drew (S:=fun w'=>w'.heap[b8]?=some (.cells #[.int .i64 t2.op,.int .i64 t2.num,.string t2.name,.slice A2 n2 c2,.int .i64 (j2:Nat),.int .i64 0] 140 (0,0))) (by kernel_rfl) (by rw [←hwd];exact Xb8.out) (fun hHeld=>?_);rw [←hwd] at hHeld ⊢;clear hwd hbd;refine tkH 0 (v:=?_) (tLRprT rfl) (Or.inl ⟨by rfl,?hy⟩) (by assumption) ?_
        case hy=>
         intro w0 hSw;clear hSw;go_simp
         (first | done | with_reducible rfl)
        (try simp only [Act.put,sAr,sZe,sSu]);refine tkH 1 (v:=?_) (tLRprT rfl) (Or.inl ⟨by rfl,?hy⟩) (by assumption) ?_
        case hy=>
         intro w0 hSw;clear hSw;go_simp
         (first | done | with_reducible rfl)
        (try simp only [Act.put,sAr,sZe,sSu]);refine tkH 3 (v:=?_) (tLRprT rfl) (Or.inl ⟨by rfl,?hy⟩) (by assumption) ?_
        case hy=>
         intro w0 hSw;clear hSw;go_simp
         (first | done | with_reducible rfl)
        (try simp only [Act.put,sAr,sZe,sSu]);refine tkH 4 (v:=?_) (tLRprT rfl) (Or.inl ⟨by rfl,?hy⟩) (by assumption) ?_
        case hy=>
         intro w0 hSw;obtain ⟨h0,h1,h2,h3,h4,h5,-⟩:=q6 hSw;clear hSw;go_simp
         (first | done | with_reducible rfl)
        (try simp only [Act.put,sAr,sZe,sSu]);refine tkH 6 (v:=?_) (tLRprT rfl) (Or.inl ⟨by rfl,?hy⟩) (by assumption) ?_
        case hy=>
         intro w0 hSw;clear hSw;go_simp
         (first | done | with_reducible rfl)
        (try simp only [Act.put,sAr,sZe,sSu]);refine tkH 7 (v:=?_) (tLRprT rfl) (Or.inl ⟨by rfl,?hy⟩) (by assumption) ?_
        case hy=>
         intro w0 hSw;obtain ⟨h0,h1,h2,h3,h4,h5,-⟩:=q6 hSw;clear hSw;go_simp
         (first | done | with_reducible rfl)
        (try simp only [Act.put,sAr,sZe,sSu]);refine Rd (rs:=[2]) (by kernel_rfl) (by simp) ?_;refine Rc (tLRprT rfl) (fun K hK=>?_) Rn;obtain ⟨u0,u1,u2,u3,u4,u5,uzq⟩:=q6 Xb7.out;have ul:b7<wd.heap.size:=lH Xb7.out;go_simp;clear u0 uzq u1 u2 u3 u4 u5 ul;refine hK.out _ _ hHeld (fun hHeld=>?_);clear hK K;(try simp only [Act.put,sAr,sZe,sSu]);refine Rd (rs:=[5]) (by kernel_rfl) (by simp) ?_;refine Rc (tLRprT rfl) (fun K hK=>?_) Rn;go_simp;(with_reducible refine (HTW.out).mono ?_);rintro e w8 ⟨g,rfl,hVT,hbT⟩;have HVT:=Hd hVT;refine hK.out _ _ ((hbT.block b8 (lH Xb8.out)).trans Xb8.out) (fun hHeld=>?_);clear hK K;(try simp only [Act.put,sAr,sZe,sSu]);replace X6:=kX hbT X6;replace Xb7:=kX hbT Xb7;replace HB:=kB HB hbT;clear hbT hVT HTW;refine tkH 8 (v:=?_) (tLRprT rfl) (Or.inl ⟨by rfl,?hy⟩) (by assumption) ?_
        case hy=>
         intro w0 hSw;clear hSw;go_simp
         (first | done | with_reducible rfl)
        (try simp only [Act.put,sAr,sZe,sSu]);refine Rd (rs:=[9]) (by kernel_rfl) (by simp) ?_;refine Rc (tLRprT rfl) (fun K hK=>?_) Rn;obtain ⟨u0,u1,u2,u3,u4,u5,uzq⟩:=q6 Xb7.out;have ul:b7<w8.heap.size:=lH Xb7.out;go_simp;clear u0 uzq u1 u2 u3 u4 u5 ul;refine hK.out _ _ ((sets6_far n87).trans hHeld) (fun hHeld=>?_);clear hK K;(try simp only [Act.put,sAr,sZe,sSu]);refine wpAnyH_done (by kernel_rfl) ?_ _;clear hHeld;have hSn:=SumS.set (i:=i) (one:=HI1P) (ops:=[16,17]) (fuel:=fu) (ra:=.ok (tmOf zz [t1,t2]) j2) (r:=r) HB6.out NLT.out X6.out Xb7.out HVT.out HB.out (fun t j h=>by cases h;have:=HFU2.out;have:=HN.out;exact ⟨by omega,by omega,by omega⟩) (fun j x h=>by cases h) HGO3.out;have hja:=HJA.out;have hjn:=jAt_of hSn.x7;go_wp2_with fail
        go_roundw
        case rel=>exact ⟨.ok (tmOf zz [t1,t2]) j2,some ⟨g,0,none⟩,2,fu,hSn⟩
        case measure=>
         have:=HN.out;rw [hja];refine lt_of_eq_of_lt (congrArg (l.length - ·) hjn) ?_;show l.length - j2<_;omega
end Go.Proofs.YtnbphgeepnknlaaGreatDoor
