/- Walks and plain words: RfqF RfqG. -/
import Derived.Test.YtnbphgeepnknlaaGreatDoorURfqE
namespace Go.Proofs.YtnbphgeepnknlaaGreatDoor
open Go.RowKit
set_option linter.unusedVariables false
set_option maxRecDepth 100000
set_option maxHeartbeats 8000000
theorem rfunit_open (l:List Tok) (d i:Nat) (PF:FPar) (hd:d≤256) (hF:d<256→FnG l (d+1) 72 PF) (hG:FGdP l PF) (hZ:FNzP PF) (A:Option Addr) (c:Nat) (w:World) (hi:i≤l.length) (hP:TokIn w A c l) (t:Tok) (ht:l[i]?=some t) (hk4:t.kind=4) (hx4:t.text=[40]) :
 Calls Tryz.prog 183 #[.slice A l.length c,.int .i64 (i:Nat),.int .i64 (d:Nat)] w (GFQ w ((innG d PF i).then fun f j=>if isTk l j 4 [41]=true then .ok f (j+1) else .bad j 16)):=by
 obtain ⟨w1,hw1⟩:=ex_ (w.alloc (.cells #[.int .i64 0,.int .i64 0,.int .i64 0,.string ⟨#[]⟩,.slice none 0 0,.slice none 0 0,.int .i64 0,.int .i64 0] 150));have hb1:=bAl hw1;have hs1:w1.heap.size=w.heap.size+1:=by rw [hw1];simp
 have X6:=nAl hw1 rfl;have HB:=Hd hb1;have HW1:=Hd hw1;have HP:=Hd hP;have hlen:=hP.len;have hcap:=hP.cap;have hcapm:=hP.capm;unfold maxLen at hcapm;obtain ⟨n,hn⟩:=ex_ l.length;have HN:=Hd hn;rw [←hn] at hi hlen hcap;obtain ⟨F,HF⟩:=exh_ (GFQ w ((innG d PF i).then fun f j=>if isTk l j 4 [41]=true then .ok f (j+1) else .bad j 16));rw [←HF.out];have HFN:Hid (d<256→FnG l (d+1) 72 PF):=hF;have HG:=Hd hG;have HZ:=Hd hZ;rw [←hn];clear hF hG hZ hw1 hP hb1 hn;have hB:isTk l i 4 [91]=false:=by unfold isTk;rw [ht];simp [hk4,hx4]
 have hE:isTk l i 3 [69]=false:=by unfold isTk;rw [ht];simp [hk4]
 have hA:isTk l i 3 [65]=false:=by unfold isTk;rw [ht];simp [hk4]
 have hN:isTk l i 4 [33]=false:=by unfold isTk;rw [ht];simp [hk4,hx4]
 have hQ:isTk l i 4 [40]=true:=by unfold isTk;rw [ht];simp [hk4,hx4]
 have hkn:(t.kind == 3)=false:=by simp [hk4]
 clear hk4 hx4
 by_cases h256:d=256
 · have hdd:((d:Int) == 256)=true:=by simp;omega
   go_enter Tryz.func183,Tryz.ntmps183;have hI:=rfis_any A c i l 4 ⟨#[91]⟩ w1 (HP.out.below HB.out) (by omega);rw [show isTk l i 4 (bs ⟨#[91]⟩)=isTk l i 4 [91] from rfl,hB,←HN.out] at hI;have HI:=Hd hI;clear hI;go_wp2_with fail;rw [←HW1.out];(try go_wp2_with fail);refine (HI.out).mono ?_;rintro e w' ⟨rfl,hww⟩;rw [hww];clear hww HI;have hI:=rfis_any A c i l 3 ⟨#[69]⟩ w1 (HP.out.below HB.out) (by omega);rw [show isTk l i 3 (bs ⟨#[69]⟩)=isTk l i 3 [69] from rfl,hE,←HN.out] at hI;have HI:=Hd hI;clear hI;go_wp2_with fail;refine (HI.out).mono ?_;rintro e w' ⟨rfl,hww⟩;rw [hww];clear hww HI;have hI:=rfis_any A c i l 3 ⟨#[65]⟩ w1 (HP.out.below HB.out) (by omega);rw [show isTk l i 3 (bs ⟨#[65]⟩)=isTk l i 3 [65] from rfl,hA,←HN.out] at hI;have HI:=Hd hI;clear hI;go_wp2_with fail;refine (HI.out).mono ?_;rintro e w' ⟨rfl,hww⟩;rw [hww];clear hww HI;have hI:=rfis_any A c i l 4 ⟨#[33]⟩ w1 (HP.out.below HB.out) (by omega);rw [show isTk l i 4 (bs ⟨#[33]⟩)=isTk l i 4 [33] from rfl,hN,←HN.out] at hI;have HI:=Hd hI;clear hI;go_wp2_with fail;refine (HI.out).mono ?_;rintro e w' ⟨rfl,hww⟩;rw [hww];clear hww HI;obtain ⟨b,off,hAA,hbw0,hil,hbw,hk0,hk1,-,hcell⟩:=rtok HP HB HN ht;have y0:=hcell i t ht 0 (by omega);simp only [tokV,Nat.add_zero] at y0;have y2:=hcell i t ht 2 (by omega);simp only [tokV] at y2;subst hAA;have hdi:decide ((i:Int)<(n:Int))=true:=by simpa using hk1
   clear hcell;go_wp2_with fail;have hI:=rfis_any _ c i l 4 ⟨#[40]⟩ w1 (HP.out.below HB.out) (by omega);rw [show isTk l i 4 (bs ⟨#[40]⟩)=isTk l i 4 [40] from rfl,hQ,←HN.out] at hI;have HI:=Hd hI;clear hI;(try go_wp2_with fail);refine (HI.out).mono ?_;rintro e w' ⟨rfl,hww⟩;rw [hww];clear hww HI;have HRR:Hid (F=GFQ w (.bad i 17)):=by show _=_;rw [HF.out];unfold innG;rw [iP h256];rfl
   have hdd:((d:Int) == 256)=true:=by simp;omega
   have HFL:=Hd (rffail_any i 17 w1 (by decide));clear h256;(try go_wp2_with fail);refine (HFL.out).mono ?_;rintro e w7 ⟨z,rfl,-,hb2⟩;replace X6:=kX hb2 X6;replace HB:=kB HB hb2;clear hb2 HFL;simp only [Rs.at_,Rs.err];obtain ⟨v0,v1,v2,v3,v4,v5,v6,v7,vzq⟩:=q8 X6.out;have hvl:=lH X6.out;go_wp2_with fail;clear v0 vzq v1 v2 v3 v4 v5 v6 v7;refine bR (rcH (s8_at X6.out)) rfl ?_;rw [HRR.out];exact gfq_sets (r:=.bad i 17) (x:=z) (fun f j h=>nomatch h) HB.out
 · have hdd:((d:Int) == 256)=false:=by simp;omega
   have H256:Hid (¬d=256):=h256;have hd':d<256:=by omega
   clear h256;go_enter Tryz.func183,Tryz.ntmps183;have hI:=rfis_any A c i l 4 ⟨#[91]⟩ w1 (HP.out.below HB.out) (by omega);rw [show isTk l i 4 (bs ⟨#[91]⟩)=isTk l i 4 [91] from rfl,hB,←HN.out] at hI;have HI:=Hd hI;clear hI;go_wp2_with fail;rw [←HW1.out];(try go_wp2_with fail);refine (HI.out).mono ?_;rintro e w' ⟨rfl,hww⟩;rw [hww];clear hww HI;have hI:=rfis_any A c i l 3 ⟨#[69]⟩ w1 (HP.out.below HB.out) (by omega);rw [show isTk l i 3 (bs ⟨#[69]⟩)=isTk l i 3 [69] from rfl,hE,←HN.out] at hI;have HI:=Hd hI;clear hI;go_wp2_with fail;refine (HI.out).mono ?_;rintro e w' ⟨rfl,hww⟩;rw [hww];clear hww HI;have hI:=rfis_any A c i l 3 ⟨#[65]⟩ w1 (HP.out.below HB.out) (by omega);rw [show isTk l i 3 (bs ⟨#[65]⟩)=isTk l i 3 [65] from rfl,hA,←HN.out] at hI;have HI:=Hd hI;clear hI;go_wp2_with fail;refine (HI.out).mono ?_;rintro e w' ⟨rfl,hww⟩;rw [hww];clear hww HI;have hI:=rfis_any A c i l 4 ⟨#[33]⟩ w1 (HP.out.below HB.out) (by omega);rw [show isTk l i 4 (bs ⟨#[33]⟩)=isTk l i 4 [33] from rfl,hN,←HN.out] at hI;have HI:=Hd hI;clear hI;go_wp2_with fail;refine (HI.out).mono ?_;rintro e w' ⟨rfl,hww⟩;rw [hww];clear hww HI;obtain ⟨b,off,hAA,hbw0,hil,hbw,hk0,hk1,-,hcell⟩:=rtok HP HB HN ht;have y0:=hcell i t ht 0 (by omega);simp only [tokV,Nat.add_zero] at y0;have y2:=hcell i t ht 2 (by omega);simp only [tokV] at y2;subst hAA;have hdi:decide ((i:Int)<(n:Int))=true:=by simpa using hk1
   clear hcell;go_wp2_with fail;have hI:=rfis_any _ c i l 4 ⟨#[40]⟩ w1 (HP.out.below HB.out) (by omega);rw [show isTk l i 4 (bs ⟨#[40]⟩)=isTk l i 4 [40] from rfl,hQ,←HN.out] at hI;have HI:=Hd hI;clear hI;(try go_wp2_with fail);refine (HI.out).mono ?_;rintro e w' ⟨rfl,hww⟩;rw [hww];clear hww HI;have hcf:=HFN.out hd' _ c (i+1) w1 (by have:=(gE.1 ht).1;omega) (HP.out.below HB.out);rw [show ((i+1:Nat):Int)=(i:Int)+1 from by omega] at hcf;rw [show ((d+1:Nat):Int)=(d:Int)+1 from by omega] at hcf;obtain ⟨r1,HRr1⟩:=exh_ (PF (i+1));rw [←HRr1.out,←HN.out] at hcf;have HC:=Hd hcf;clear hcf;(try go_wp2_with fail);refine (HC.out).mono ?_;rintro e w3 ⟨x,rfl,hx,hb2⟩;obtain ⟨jr1,HJr1⟩:=exh_ r1.at_;obtain ⟨yr1,HYr1⟩:=exh_ r1.err;rw [←HJr1.out,←HYr1.out];have HXx:Hid (∀ f j,r1=.ok f j→x.Is (fun q=>w.heap.size<q) w3 f):=fun f j h=>(hx f j h).keep Kr (fun q _ h=>by have:=lH X6.out;omega);clear hx HC;replace X6:=kX hb2 X6;replace HB:=kB HB hb2;clear hb2;have XPb13:=X6;have HBPb13:=HB;obtain ⟨b13,hb13⟩:=ex_ w3.heap.size;obtain ⟨w4,hw4⟩:=ex_ (w3.alloc (.cells #[.int .i64 x.o,.int .i64 x.tn,.int .i64 x.tm,.string x.s,.slice x.Ae x.ne x.ce,.slice x.A x.n x.c,.int .i64 (jr1:Nat),.int .i64 yr1] 150));have Xb13:=nAl hw4 hb13;have hal:=bAl hw4;have GTb13:w.heap.size<b13:=by have:=lH X6.out;omega
   have Qb13:=Hd hb13;have Qw4:=Hd hw4;clear hb13 hw4;replace X6:=kX hal X6;replace HB:=kB HB hal;replace HXx:Hid (∀ f j,r1=.ok f j→x.Is (fun q=>w.heap.size<q) w4 f):=fun f j h=>(HXx.out f j h).keep (Kb hal) (fun _ _ h=>h);clear hal
   by_cases hy:yr1=0
   · obtain ⟨f,hf⟩:=rs_ok HJr1.out HYr1.out hy (fun j e h=>HZ.out (i+1) j e (by rw [←HRr1.out];exact h));have HP1:=Hd (HRr1.out.symm.trans hf);have hjl:=(HG.out (i+1) f jr1 HP1.out).jl;rw [←HN.out] at hjl;have HI1:Hid (x.Is (fun q=>w.heap.size<q) w4 f):=HXx.out f jr1 hf;subst hy;clear hf HXx;have hI:=rfis_any _ c (jr1) l 4 ⟨#[41]⟩ w4 (HP.out.below HB.out) (by omega);rw [show isTk l (jr1) 4 (bs ⟨#[41]⟩)=isTk l (jr1) 4 [41] from rfl,←HN.out] at hI
     by_cases hk:isTk l (jr1) 4 [41]=true
     · have HT2:Hid (isTk l jr1 4 [41]=true):=hk;rw [hk] at hI;have HI:=Hd hI;have hj1:jr1<n:=by rw [HN.out];exact isTk_lt hk
       clear hI hk;obtain ⟨u0,u1,u2,u3,u4,u5,u6,u7,uzq⟩:=q8 Xb13.out;have hul:=lH Xb13.out;go_wp2_with fail;rw [←Qw4.out,←Qb13.out];(try go_wp2_with fail);refine (HI.out).mono ?_;rintro e w' ⟨rfl,hww⟩;rw [hww];clear hww HI;have hwj:IntKind.i64.wrap ((jr1:Int)+1)=((jr1+1:Nat):Int):=by rw [IntWalk.i64_in _ (by omega)];omega
       obtain ⟨v0,v1,v2,v3,v4,v5,v6,v7,vzq⟩:=q8 X6.out;have hvl:=lH X6.out;go_wp2_with fail;clear hul u0 uzq u1 u2 u3 u4 u5 u6 u7 v0 vzq v1 v2 v3 v4 v5 v6 v7;refine bR (rcH (s8_at X6.out)) rfl ?_;rw [HF.out];unfold innG;rw [iN H256.out,HP1.out,Rs.then_ok,iP HT2.out]
       exact gfq_sets (x:=x) (fun f' j' h=>by
        obtain ⟨rfl,rfl⟩:=ok_inj h
        exact HI1.out) HB.out
     · have HT2:Hid (¬isTk l jr1 4 [41]=true):=hk;have hkf:isTk l (jr1) 4 [41]=false:=by simpa using hk
       rw [hkf] at hI;have HI:=Hd hI;clear hI hk hkf HI1;obtain ⟨u0,u1,u2,u3,u4,u5,u6,u7,uzq⟩:=q8 Xb13.out;have hul:=lH Xb13.out;go_wp2_with fail;rw [←Qw4.out,←Qb13.out];(try go_wp2_with fail);refine (HI.out).mono ?_;rintro e w' ⟨rfl,hww⟩;rw [hww];clear hww HI;have HFL:=Hd (rffail_any (jr1) 16 w4 (by decide));go_wp2_with fail;clear hul u0 uzq u1 u2 u3 u4 u5 u6 u7;refine (HFL.out).mono ?_;rintro e w5 ⟨z,rfl,-,hb2⟩;replace X6:=kX hb2 X6;replace HB:=kB HB hb2;clear hb2 HFL;simp only [Rs.at_,Rs.err];obtain ⟨v0,v1,v2,v3,v4,v5,v6,v7,vzq⟩:=q8 X6.out;have hvl:=lH X6.out;go_wp2_with fail;clear v0 vzq v1 v2 v3 v4 v5 v6 v7;refine bR (rcH (s8_at X6.out)) rfl ?_;rw [HF.out];unfold innG;rw [iN H256.out,HP1.out,Rs.then_ok,iN HT2.out];exact gfq_sets (r:=.bad (jr1) 16) (x:=z) (fun f j h=>nomatch h) HB.out
   · have hyb:(yr1 != 0)=true:=by simpa using hy
     have hrb:r1=.bad jr1 yr1:=rs_bad HJr1.out HYr1.out hy;have HPB:=Hd (HRr1.out.symm.trans hrb);clear hy hrb;obtain ⟨v0,v1,v2,v3,v4,v5,v6,v7,vzq⟩:=q8 XPb13.out;have hvl:=lH XPb13.out;go_wp2_with fail;clear v0 vzq v1 v2 v3 v4 v5 v6 v7;refine bR (rcH (aK (s8_at XPb13.out))) rfl ?_;rw [HF.out];unfold innG;rw [iN H256.out,HPB.out,Rs.then_bad];exact gfq_alloc (gfq_sets (r:=.bad jr1 yr1) (x:=x) (fun f j h=>nomatch h) HBPb13.out) _
theorem rfunit_term (l:List Tok) (d i:Nat) (A:Option Addr) (c:Nat) (w:World) (hi:i≤l.length) (hP:TokIn w A c l) (t:Tok) (ht:l[i]?=some t) (hk4:t.kind=4) (hx3:t.text=[91]) :
 Calls Tryz.prog 183 #[.slice A l.length c,.int .i64 (i:Nat),.int .i64 (d:Nat)] w (GFQ w (fTerm l i)):=by
 obtain ⟨w1,hw1⟩:=ex_ (w.alloc (.cells #[.int .i64 0,.int .i64 0,.int .i64 0,.string ⟨#[]⟩,.slice none 0 0,.slice none 0 0,.int .i64 0,.int .i64 0] 150));have hb1:=bAl hw1;have hs1:w1.heap.size=w.heap.size+1:=by rw [hw1];simp
 have X6:=nAl hw1 rfl;have HB:=Hd hb1;have HW1:=Hd hw1;have HP:=Hd hP;have hlen:=hP.len;have hcap:=hP.cap;have hcapm:=hP.capm;unfold maxLen at hcapm;obtain ⟨n,hn⟩:=ex_ l.length;have HN:=Hd hn;rw [←hn] at hi hlen hcap;obtain ⟨F,HF⟩:=exh_ (GFQ w (fTerm l i));rw [←HF.out];rw [←hn];clear hw1 hP hb1 hn;have hB:isTk l i 4 [91]=true:=by unfold isTk;rw [ht];simp [hk4,hx3]
 have hil:i<n:=by rw [HN.out];exact (gE.1 ht).1
 have htk:=rptake_any l A c (i+1) w1 (by rw [←HN.out];omega) (HP.out.below HB.out);obtain ⟨r,hr⟩:=ex_ (takeT l (i+1));rw [←hr,←HN.out,show ((i+1:Nat):Int)=(i:Int)+1 from by omega] at htk;have HRE:Hid (F=GFQ w (if r.2.2≠0 then .bad r.2.1 r.2.2 else if isTk l r.2.1 4 [93]=true then .ok (.mk 1 r.1 []) (r.2.1+1) else .bad r.2.1 16)):=by show _=_;rw [HF.out];unfold fTerm;rw [←hr]
 have HRQ:Hid (r=takeT l (i+1)):=hr;obtain ⟨t',j,y⟩:=r;have HTK:=Hd htk;clear hr htk hk4 hx3 ht t;obtain ⟨t,htt⟩:=ex_ t';subst htt;go_enter Tryz.func183,Tryz.ntmps183;have hI:=rfis_any A c i l 4 ⟨#[91]⟩ w1 (HP.out.below HB.out) (by omega);rw [show isTk l i 4 (bs ⟨#[91]⟩)=isTk l i 4 [91] from rfl,hB,←HN.out] at hI;have HI:=Hd hI;clear hI;go_wp2_with fail;rw [←HW1.out];(try go_wp2_with fail);refine (HI.out).mono ?_;rintro e w' ⟨rfl,hww⟩;rw [hww];clear hww HI;go_wp2_with fail;refine (HTK.out).mono ?_;rintro e w2 ⟨A',c',rfl,hV,hb2⟩;obtain ⟨n2,HN2⟩:=exh_ t.kids.length;unfold Tm.val;rw [←HN2.out];have HV:Hid (TmVS (fun q=>w.heap.size<q) w2 A' c' t):=hV.keep Kr (fun q _ h=>by omega);clear hV HTK;replace X6:=kX hb2 X6;replace HB:=kB HB hb2;clear hb2;obtain ⟨b7,hb7⟩:=ex_ w2.heap.size;obtain ⟨w3,hw3⟩:=ex_ (w2.alloc (.cells #[.int .i64 t.op,.int .i64 t.num,.string t.name,.slice A' n2 c'] 25));have Xb7:=nAl hw3 hb7;have hal:=bAl hw3;have GTb7:w.heap.size<b7:=by have:=lH X6.out;omega
 have HV3:Hid (TmVS (fun q=>w.heap.size<q) w3 A' c' t):=HV.out.keep (Kb hal) (fun _ _ h=>h);have Qw3:=Hd hw3;have Qb7:=Hd hb7;have XP7:=X6;have HBP7:=HB;clear hw3 hb7 HV;replace X6:=kX hal X6;replace HB:=kB HB hal;clear hal
 by_cases hy:y=0
 · have HRF:Hid (F=GFQ w (if isTk l j 4 [93]=true then .ok (.mk 1 t []) (j+1) else .bad j 16)):=by show _=_;rw [HRE.out,iN (by simpa using hy)]
   subst hy;have hjl:j≤n:=by rw [HN.out];exact (takeT_ok (HRQ.out).symm).2.jl
   have hI:=rfis_any _ c (j) l 4 ⟨#[93]⟩ w3 (HP.out.below HB.out) (by omega);rw [show isTk l (j) 4 (bs ⟨#[93]⟩)=isTk l (j) 4 [93] from rfl,←HN.out] at hI
   by_cases hk:isTk l (j) 4 [93]=true
   · have HT2:Hid (isTk l j 4 [93]=true):=hk;rw [hk] at hI;have HI:=Hd hI;clear hI hk;go_wp2_with fail;rw [←Qw3.out,←Qb7.out];obtain ⟨u0,u1,u2,u3,uzq⟩:=q4 Xb7.out;have hul:=lH Xb7.out;(try go_wp2_with fail);refine (HI.out).mono ?_;rintro e w' ⟨rfl,hww⟩;rw [hww];clear hww HI;have hwj:IntKind.i64.wrap ((j:Int)+1)=((j+1:Nat):Int):=by rw [IntWalk.i64_in _ (by omega)];omega
     obtain ⟨v0,v1,v2,v3,v4,v5,v6,v7,vzq⟩:=q8 X6.out;have hvl:=lH X6.out;go_wp2_with fail;clear hul u0 uzq u1 u2 u3 v0 vzq v1 v2 v3 v4 v5 v6 v7;refine bR (rcH (s8_at X6.out)) rfl ?_;rw [HRF.out,iP HT2.out]
     exact gfq_sets (x:=FV.mk 1 t.op t.num t.name A' n2 c' none 0 0) (fun f' j' h=>by
      obtain ⟨rfl,rfl⟩:=ok_inj h
      exact ⟨rfl,rfl,rfl,rfl,HN2.out,rfl,HV3.out,lr _,zl _,.inl rfl⟩) HB.out
   · have HT2:Hid (¬isTk l j 4 [93]=true):=hk;have hkf:isTk l (j) 4 [93]=false:=by simpa using hk
     rw [hkf] at hI;have HI:=Hd hI;clear hI hk hkf;go_wp2_with fail;rw [←Qw3.out,←Qb7.out];obtain ⟨u0,u1,u2,u3,uzq⟩:=q4 Xb7.out;have hul:=lH Xb7.out;(try go_wp2_with fail);refine (HI.out).mono ?_;rintro e w' ⟨rfl,hww⟩;rw [hww];clear hww HI;have HFL:=Hd (rffail_any (j) 16 w3 (by decide));go_wp2_with fail;clear hul u0 uzq u1 u2 u3;refine (HFL.out).mono ?_;rintro e w5 ⟨z,rfl,-,hb2⟩;replace X6:=kX hb2 X6;replace HB:=kB HB hb2;clear hb2 HFL;simp only [Rs.at_,Rs.err];obtain ⟨v0,v1,v2,v3,v4,v5,v6,v7,vzq⟩:=q8 X6.out;have hvl:=lH X6.out;go_wp2_with fail;clear v0 vzq v1 v2 v3 v4 v5 v6 v7;refine bR (rcH (s8_at X6.out)) rfl ?_;rw [HRF.out,iN HT2.out];exact gfq_sets (r:=.bad (j) 16) (x:=z) (fun f j h=>nomatch h) HB.out
 · have HRF:Hid (F=GFQ w (.bad j y)):=by show _=_;rw [HRE.out,iP hy]
   have hyb:(y != 0)=true:=by simpa using hy
   clear hy;obtain ⟨v0,v1,v2,v3,v4,v5,v6,v7,vzq⟩:=q8 XP7.out;have hvl:=lH XP7.out;go_wp2_with fail;clear v0 vzq v1 v2 v3 v4 v5 v6 v7;refine bR (rcH (aK (s8_at XP7.out))) rfl ?_;rw [HRF.out];exact gfq_alloc (gfq_sets (r:=.bad j y) (x:=FV.zero) (fun f j h=>nomatch h) HBP7.out) _
theorem rfin_eq {d:Nat} {P:FPar} {s:Option FPar} (hs:s=if d=256 then none else some P) (i:Nat):fInner s i=innG d P i:=by
 unfold fInner innG;rw [hs]
 by_cases h:d=256
 · rw [iP h,iP h]
 · rw [iN h,iN h]
theorem rfun_eq {l:List Tok} {d:Nat} {P:FPar} {s:Option FPar} (hs:s=if d=256 then none else some P) (op:Int) (i:Nat):untilB l s op i=if d=256 then .bad i 17 else betP l P op i:=by
 unfold untilB betP;rw [hs]
 by_cases h:d=256
 · rw [iP h,iP h]
 · rw [iN h,iN h]
theorem one_tok {l:List Tok} {i:Nat} {t:Tok} (ht:l[i]?=some t):oneOp l i=if t.kind=4 then (if t.text=[33] then 2 else 0) else if t.kind=3 then overK t.text 0 else 0:=by
 unfold oneOp isTk overK;rw [ht]
 by_cases h4:t.kind=4
 · simp [h4]
 · by_cases h3:t.kind=3
   · simp [h3]
   · simp [h3,h4]
theorem one_none {l:List Tok} {i:Nat} (ht:l[i]?=none):oneOp l i=0:=by
 unfold oneOp isTk;rw [ht]
 rfl
theorem tk_at {l:List Tok} {i:Nat} {t:Tok} (ht:l[i]?=some t) (k:Int) (s:Bs):isTk l i k s=(decide (t.kind=k) && decide (t.text=s)):=by
 unfold isTk;rw [ht]
theorem tk_no {l:List Tok} {i:Nat} (ht:l[i]?=none) (k:Int) (s:Bs):isTk l i k s=false:=by
 unfold isTk;rw [ht]
theorem over_EA {s:Bs} (h:s=[69]∨s=[65]):overK s 0=0:=by rcases h with rfl | rfl <;> decide
theorem rfunit_any (l:List Tok) (d:Nat) (v:FLvl) (s:Option FLvl) (hd:d≤256) (hs:s=if d=256 then none else some v) (hU:d<256→FnG l (d+1) 183 v.unit) (hF:d<256→FnG l (d+1) 72 v.form) (hG:FGdP l v.form) (hZ:FNzP v.form) (hZU:FNzP v.unit):FnG l d 183 (fUnitB l s):=by
 intro A c i w hi hP;have h1:s.map FLvl.form=if d=256 then none else some v.form:=by rw [hs];split <;> rfl
 have h2:s.map FLvl.unit=if d=256 then none else some v.unit:=by rw [hs];split <;> rfl
 show Calls _ _ _ _ (GFQ w (fUnitB l s i));unfold fUnitB;rw [rfin_eq h1,rfin_eq h2,rfun_eq h1,rfun_eq h1]
 cases ht:l[i]? with
 | none=>
  simp only [one_none ht,tk_no ht];exact rfunit_bad l d i A c w hi hP (tk_no ht _ _) (tk_no ht _ _) (tk_no ht _ _) (tk_no ht _ _) (tk_no ht _ _) (fun t h=>by rw [ht] at h;cases h)
 | some t=>
  simp only [one_tok ht,tk_at ht]
  by_cases k4:t.kind=4
  · by_cases x1:t.text=[33]
    · simp only [k4,x1,iP,ne_eq,decide_true]
      simpa using rfunit_op l d i v.unit 2 hd hU hZU (by decide) A c w hi hP t ht (by rw [tk_at ht];simp [k4,x1]) (by rw [tk_at ht];simp [k4]) (by rw [tk_at ht];simp [k4]) (.inl ⟨rfl,by rw [tk_at ht];simp [k4,x1],by omega⟩)
    · by_cases x2:t.text=[40]
      · simpa [k4,x2] using rfunit_open l d i v.form hd hF hG hZ A c w hi hP t ht k4 x2
      · by_cases x3:t.text=[91]
        · simpa [k4,x3] using rfunit_term l d i A c w hi hP t ht k4 x3
        · simpa [k4,x1,x2,x3] using rfunit_bad l d i A c w hi hP (by rw [tk_at ht];simp [x3]) (by rw [tk_at ht];simp [k4]) (by rw [tk_at ht];simp [k4]) (by rw [tk_at ht];simp [x1]) (by rw [tk_at ht];simp [x2]) (fun t' h h3=>by rw [ht] at h;cases h;omega)
  · by_cases k3:t.kind=3
    · by_cases x1:t.text=[69]
      · have ho:=over_EA (.inl x1);rw [x1] at ho;have:=rfunit_until l d i v.form 9 hd hF hG hZ A c w hi hP t ht k3 (.inl ⟨rfl,x1⟩) (by rw [tk_at ht];simp [k3]) (by rw [tk_at ht];simp [k3])
        simpa [k3,ho,x1] using this
      · by_cases x2:t.text=[65]
        · have ho:=over_EA (.inr x2);rw [x2] at ho;have:=rfunit_until l d i v.form 13 hd hF hG hZ A c w hi hP t ht k3 (.inr ⟨rfl,x2⟩) (by rw [tk_at ht];simp [k3]) (by rw [tk_at ht];simp [k3])
          simpa [k3,ho,x2] using this
        · by_cases ho:overK t.text 0=0
          · simpa [k3,ho,x1,x2] using rfunit_bad l d i A c w hi hP (by rw [tk_at ht];simp [k3]) (by rw [tk_at ht];simp [x1]) (by rw [tk_at ht];simp [x2]) (by rw [tk_at ht];simp [k3]) (by rw [tk_at ht];simp [k3]) (fun t' h h3=>by rw [ht] at h;cases h;exact ho)
          · have:=rfunit_op l d i v.unit (overK t.text 0) hd hU hZU ho A c w hi hP t ht (by rw [tk_at ht];simp [k3]) (by rw [tk_at ht];simp [x1]) (by rw [tk_at ht];simp [x2]) (.inr ⟨k3,by rw [tk_at ht];simp [k3],rfl⟩)
            simpa [k3,ho] using this
    · simpa [k3,k4] using rfunit_bad l d i A c w hi hP (by rw [tk_at ht];simp [k4]) (by rw [tk_at ht];simp [k3]) (by rw [tk_at ht];simp [k3]) (by rw [tk_at ht];simp [k4]) (by rw [tk_at ht];simp [k4]) (fun t' h h3=>by rw [ht] at h;cases h;exact absurd h3 k3)
structure GLvlC (d:Nat) (l:List Tok) (v:FLvl):Prop where
 form:FnG l d 72 v.form
 unit:FnG l d 183 v.unit
theorem glvl_step (d:Nat) (l:List Tok) (s:Option FLvl) (v:FLvl) (hd:d≤256) (hs:s=if d=256 then none else some v) (hv:d<256→GLvlC (d+1) l v) (hg:FGdLvl l v) (hz:FNzLvl v):GLvlC d l ⟨fFormB l s,fUnitB l s⟩:=by
 have hsv:∀ v',s=some v'→v'=v:=fun v' h=>by
  rw [hs] at h
  split at h
  · cases h
  · cases h;rfl
 obtain ⟨g1,g2⟩:=fsub_gd (l:=l) (s:=s) (fun v' h=>by rw [hsv v' h];exact hg);obtain ⟨z1,z2⟩:=fsub_nz (s:=s) (fun v' h=>by rw [hsv v' h];exact hz);have gU:=funit_gd g1 g2;have zU:=funit_nz (l:=l) z1 z2;have hu:=rfunit_any l d v s hd hs (fun h=>(hv h).unit) (fun h=>(hv h).form) hg.form hz.form hz.unit;have hand:FnGB l d 143 true (fAnds l s):=rfrow_true l d _ hd hu gU zU;have gA:FGdP l (fAnds l s):=row_gd (by decide) (by decide) gU;have zA:FNzP (fAnds l s):=row_nz zU;have hor:FnGB l d 143 false (fOrs l s):=rfrow_false l d _ hd hand gA zA;have hform:=rfform_any l d (fOrs l s) v.form hd hor (row_gd (by decide) (by decide) gA) (row_nz zA) (fun h=>(hv h).form) hz.form;have h1:s.map FLvl.form=if d=256 then none else some v.form:=by rw [hs];split <;> rfl
 have he:fFormB l s=fun i=>(fOrs l s i).then fun f j=>if isTk l j 4 [45,62]=true then (innG d v.form j).then fun g k=>.ok (fmOf 5 [f,g]) k else .ok f j:=by
  funext i
  unfold fFormB
  congr 1
  funext f j
  rw [rfin_eq h1]
 refine ⟨?_,hu⟩;rw [he];exact hform
theorem glevels (l:List Tok):∀ r d,d+r=256→GLvlC d l (flvl l r)
 | 0,d,h=>by
  rw [flvl];exact glvl_step d l none (flvl l 0) (by omega) (by rw [iP (by omega)]) (fun h=>by omega) (flvl_gd l 0) (flvl_nz l 0)
 | r+1,d,h=>by
  rw [flvl];exact glvl_step d l (some (flvl l r)) (flvl l r) (by omega) (by rw [iN (by omega)]) (fun _=>glevels l r (d+1) (by omega)) (flvl_gd l r) (flvl_nz l r)
end Go.Proofs.YtnbphgeepnknlaaGreatDoor
