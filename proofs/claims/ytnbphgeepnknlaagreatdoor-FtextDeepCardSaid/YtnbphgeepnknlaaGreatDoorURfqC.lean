/- Walk: the reference's row. -/
import Derived.Test.YtnbphgeepnknlaaGreatDoorURfqB
namespace Go.Proofs.YtnbphgeepnknlaaGreatDoor
open Go.RowKit
set_option linter.unusedVariables false
set_option maxRecDepth 100000
set_option maxHeartbeats 16000000
structure GRowS (w:World) (b11:Nat) (l:List Tok) (i op:Int) (sign:Bs) (P:FPar) (r:Rs Fm) (wr:World) (k j fuel:Nat) (x:FV):Prop where
 x6:wr.heap[w.heap.size]?=some (.cells #[.int .i64 0,.int .i64 0,.int .i64 0,.string ⟨#[]⟩,.slice none 0 0,.slice none 0 0,.int .i64 0,.int .i64 0] 150 (0,0))
 x11:wr.heap[b11]?=some (.cells #[.int .i64 x.o,.int .i64 x.tn,.int .i64 x.tm,.string x.s,.slice x.Ae x.ne x.ce,.slice x.A x.n x.c,.int .i64 ((if k=0 then 0 else j):Nat),.int .i64 0] 150 (0,0))
 below:Below w.heap.size w wr
 kj:k≤j
 jl:j≤l.length
 fu:l.length≤fuel+j
 zero:k=0→((P j).then fun f m=>rowL l op sign P fuel f m)=r
 more:k≠0→∃ f,x.Is (fun q=>w.heap.size<q∧q≠b11) wr f∧rowL l op sign P fuel f j=r
theorem rfrow_true (l:List Tok) (d:Nat) (P:FPar) (hd:d≤256) (hF:FnG l d 183 P) (hG:FGdP l P) (hZ:FNzP P):FnGB l d 143 true (rowB l 3 [38] P):=by
 intro A c i w hi hP;have HFN:=Hd (hF A c);obtain ⟨w1,hw1⟩:=ex_ (w.alloc (.cells #[.int .i64 0,.int .i64 0,.int .i64 0,.string ⟨#[]⟩,.slice none 0 0,.slice none 0 0,.int .i64 0,.int .i64 0] 150));have hb1:=bAl hw1;have hs1:w1.heap.size=w.heap.size+1:=by rw [hw1];simp
 have X6:=nAl hw1 rfl;have HB:=Hd hb1;have HW1:=Hd hw1;have HP:=Hd hP;have hlen:=hP.len;have hcap:=hP.cap;have hcapm:=hP.capm;unfold maxLen at hcapm;obtain ⟨n,hn⟩:=ex_ l.length;have HN:=Hd hn;rw [←hn] at hi hlen hcap;obtain ⟨r,hr⟩:=ex_ (rowB l 3 [38] P i);obtain ⟨F,HF⟩:=exh_ (GFQ w r);rw [←hr,←HF.out];have HR0:Hid (((P i).then fun f m=>rowL l 3 [38] P l.length f m)=r):=by show _=_;rw [hr];rfl
 have HG:=Hd hG;have HZ:=Hd hZ;rw [←hn];obtain ⟨b11,hb11⟩:=ex_ (w.heap.size+1);obtain ⟨w2,hw2⟩:=ex_ (w1.alloc (.cells #[.int .i64 0,.int .i64 0,.int .i64 0,.string ⟨#[]⟩,.slice none 0 0,.slice none 0 0,.int .i64 0,.int .i64 0] 150));have hal:=bAl hw2
 have x11:w2.heap[b11]?=some (.cells #[.int .i64 0,.int .i64 0,.int .i64 0,.string ⟨#[]⟩,.slice none 0 0,.slice none 0 0,.int .i64 0,.int .i64 0] 150 (0,0)):=by
  have h:=hA_ w1 (.cells #[.int .i64 0,.int .i64 0,.int .i64 0,.string ⟨#[]⟩,.slice none 0 0,.slice none 0 0,.int .i64 0,.int .i64 0] 150);rw [hw2,hb11];rw [hs1] at h;exact h
 have HS0:Hid (GRowS w b11 l i 3 [38] P r w2 0 i l.length FV.zero):=⟨(hal.block w.heap.size (by omega)).trans X6.out,x11,HB.out.trans (hal.mono (by omega)),zl _,by rw [←hn];exact hi,by omega,fun _=>HR0.out,fun h=>absurd rfl h⟩;have HW2:Hid (w2=(w.alloc (.cells #[.int .i64 0,.int .i64 0,.int .i64 0,.string ⟨#[]⟩,.slice none 0 0,.slice none 0 0,.int .i64 0,.int .i64 0] 150)).alloc (.cells #[.int .i64 0,.int .i64 0,.int .i64 0,.string ⟨#[]⟩,.slice none 0 0,.slice none 0 0,.int .i64 0,.int .i64 0] 150)):=by show _=_;rw [hw2,hw1]
 have Q11:=Hd hb11;have hg11:w.heap.size<b11:=by omega
 clear hF hG hZ hw1 hP hn hr hb1 X6 HB HW1 hb11 hw2 hal x11 HR0;go_enter Tryz.func143,Tryz.ntmps143;go_wp2_with fail;rw [←HW2.out,←Q11.out]
 go_loopw [1,12] (fun si sn wr=>∃ (k j fuel:Nat) (x:FV),si=.int .i64 (j:Nat)∧sn=.int .i64 (k:Nat)∧GRowS w b11 l i 3 [38] P r wr k j fuel x) (fun si sn _=>if intOf sn=0 then l.length+2 else l.length+1 - (intOf si).toNat)
 case atStart=>exact ⟨0,i,l.length,FV.zero,rfl,rfl,HS0.out⟩
 case round=>
  obtain ⟨k,j,fuel,x,rfl,rfl,hS⟩:=hrel;clear HS0;have HS:=Hd hS;have HB:=Hd hS.below;have X6:=Hd hS.x6;have hkj:=hS.kj;have hjl:=hS.jl;rw [←HN.out] at hjl;clear hS
  by_cases hk:k=0
  · subst hk;have HRE:Hid (((P j).then fun f m=>rowL l 3 [38] P fuel f m)=r):=HS.out.zero rfl;have HFU:Hid (l.length≤fuel+j):=HS.out.fu;have X11:Hid (wr.heap[b11]?=some (.cells #[.int .i64 x.o,.int .i64 x.tn,.int .i64 x.tm,.string x.s,.slice x.Ae x.ne x.ce,.slice x.A x.n x.c,.int .i64 (0:Nat),.int .i64 0] 150 (0,0))):=HS.out.x11;clear HS;rw [show ((0:Nat):Int)=0 from rfl];obtain ⟨b13,hb13⟩:=ex_ wr.heap.size;obtain ⟨wb,hwb⟩:=ex_ (wr.alloc (.cells #[.int .i64 0,.int .i64 0,.int .i64 0,.string ⟨#[]⟩,.slice none 0 0,.slice none 0 0,.int .i64 0,.int .i64 0] 150));have X13:=nAl hwb hb13;have hal:=bAl hwb;have hg13:b11<b13:=by have:=lH X11.out;omega
    have Qb13:=Hd hb13;have Qwb:=Hd hwb;clear hb13 hwb;replace X6:=kX hal X6;replace X11:=kX hal X11;replace HB:=kB HB hal;clear hal;have hcf:=HFN.out (j) wb (by rw [←HN.out];omega) (HP.out.below HB.out);obtain ⟨r1,HRr1⟩:=exh_ (P (j));rw [←HRr1.out,←HN.out] at hcf;have HC:=Hd hcf;clear hcf;go_wp2_with fail;rw [←Qwb.out,←Qb13.out];(try go_wp2_with fail);refine (HC.out).mono ?_;rintro e w5 ⟨y,rfl,hx,hb2⟩;obtain ⟨jr1,HJr1⟩:=exh_ r1.at_;obtain ⟨yr1,HYr1⟩:=exh_ r1.err;rw [←HJr1.out,←HYr1.out];have HXy:Hid (∀ f j,r1=.ok f j→y.Is (fun q=>w.heap.size<q∧q≠b11∧q≠b13) w5 f):=fun f j h=>(hx f j h).keep Kr (fun q _ h=>by have:=lH X13.out;omega);clear hx HC;replace X6:=kX hb2 X6;replace X11:=kX hb2 X11;replace X13:=kX hb2 X13;replace HB:=kB HB hb2;clear hb2;obtain ⟨w6,hw6⟩:=ex_ (((((((((w5.setCell ⟨b13,0,none⟩ (.int .i64 y.o)).setCell ⟨b13,1,none⟩ (.int .i64 y.tn)).setCell ⟨b13,2,none⟩ (.int .i64 y.tm)).setCell ⟨b13,3,none⟩ (.string y.s)).setCell ⟨b13,4,none⟩ (.slice y.Ae y.ne y.ce)).setCell ⟨b13,5,none⟩ (.slice y.A y.n y.c)).setCell ⟨b13,6,none⟩ (.int .i64 (jr1:Nat))).setCell ⟨b13,7,none⟩ (.int .i64 yr1)));have hw13:w.heap.size≤b13:=by omega
    have Y13:Hid (w6.heap[b13]?=some (.cells #[.int .i64 y.o,.int .i64 y.tn,.int .i64 y.tm,.string y.s,.slice y.Ae y.ne y.ce,.slice y.A y.n y.c,.int .i64 (jr1:Nat),.int .i64 yr1] 150 (0,0))):=by show _=_;rw [hw6];exact s8_at X13.out
    have Y11:Hid (w6.heap[b11]?=some (.cells #[.int .i64 x.o,.int .i64 x.tn,.int .i64 x.tm,.string x.s,.slice x.Ae x.ne x.ce,.slice x.A x.n x.c,.int .i64 (0:Nat),.int .i64 0] 150 (0,0))):=by show _=_;rw [hw6];exact (s8_far (by omega)).trans X11.out
    have Y6:Hid (w6.heap[w.heap.size]?=some (.cells #[.int .i64 0,.int .i64 0,.int .i64 0,.string ⟨#[]⟩,.slice none 0 0,.slice none 0 0,.int .i64 0,.int .i64 0] 150 (0,0))):=by show _=_;rw [hw6];exact (s8_far (by omega)).trans X6.out
    have YB:Hid (Below w.heap.size w w6):=by show Below _ _ _;rw [hw6];exact s8_below HB.out hw13
    have YY:Hid (∀ f j,r1=.ok f j→y.Is (fun q=>w.heap.size<q∧q≠b11∧q≠b13) w6 f):=fun f j h=>by rw [hw6];exact (HXy.out f j h).keep (s8_keep Kr (by simp)) (fun _ _ h=>h)
    have Qw6:=Hd hw6;clear hw6 HXy
    by_cases hy:yr1=0
    · obtain ⟨g,hg⟩:=rs_ok HJr1.out HYr1.out hy (fun j e h=>HZ.out _ j e (by rw [←HRr1.out];exact h));have hgd:=HG.out (j) g jr1 (by rw [←HRr1.out];exact hg);have hjl1:=hgd.jl;have hij1:=hgd.ij;rw [←HN.out] at hjl1;have HIY:Hid (y.Is (fun q=>w.heap.size<q∧q≠b11∧q≠b13) w6 g):=YY.out g jr1 hg;have HRE2:Hid (rowL l 3 [38] P fuel g jr1=r):=by show _=_;rw [←HRE.out,←HRr1.out,hg];rfl
      subst hy;clear hgd hg YY;obtain ⟨u0,u1,u2,u3,u4,u5,u6,u7,uzq⟩:=q8 X13.out;obtain ⟨v0,v1,v2,v3,v4,v5,v6,v7,vzq⟩:=q8 X11.out;have hul:=lH X13.out;have hvl:=lH X11.out;go_wp2_with fail;clear u0 uzq u1 u2 u3 u4 u5 u6 u7 v0 vzq v1 v2 v3 v4 v5 v6 v7;rw [←Qw6.out];obtain ⟨w9,hw9⟩:=ex_ (((((((((w6.setCell ⟨b11,0,none⟩ (.int .i64 y.o)).setCell ⟨b11,1,none⟩ (.int .i64 y.tn)).setCell ⟨b11,2,none⟩ (.int .i64 y.tm)).setCell ⟨b11,3,none⟩ (.string y.s)).setCell ⟨b11,4,none⟩ (.slice y.Ae y.ne y.ce)).setCell ⟨b11,5,none⟩ (.slice y.A y.n y.c)).setCell ⟨b11,6,none⟩ (.int .i64 (jr1:Nat))).setCell ⟨b11,7,none⟩ (.int .i64 0)))
      have hS9:GRowS w b11 l i 3 [38] P r w9 1 jr1 fuel y:=by
       refine ⟨?_,?_,?_,by omega,by rw [←HN.out];exact hjl1,by have:=HFU.out;omega,fun h=>absurd h (by decide),fun _=>⟨g,?_,HRE2.out⟩⟩
       · rw [hw9];exact (s8_far (by omega)).trans Y6.out
       · rw [hw9];exact s8_at Y11.out
       · rw [hw9];exact s8_below YB.out (by omega)
       · rw [hw9];exact HIY.out.keep (s8_keep Kr (by simp)) (fun q _ h=>⟨h.1,h.2.1⟩)
      rw [←hw9];clear hw9;go_wp2_with fail
      go_roundw
      case rel=>exact ⟨1,jr1,fuel,y,by go_num,by go_num,hS9⟩
      case measure=>simp [intOf];try omega
    · have hyb:(yr1 != 0)=true:=by simpa using hy
      have hrb:r1=.bad jr1 yr1:=rs_bad HJr1.out HYr1.out hy;have HRR:Hid (F=GFQ w (.bad jr1 yr1)):=by show _=_;rw [HF.out,←HRE.out,←HRr1.out,hrb];rfl
      clear hy hrb;obtain ⟨u0,u1,u2,u3,u4,u5,u6,u7,uzq⟩:=q8 X13.out;obtain ⟨v0,v1,v2,v3,v4,v5,v6,v7,vzq⟩:=q8 X6.out;have hul:=lH X13.out;have hvl:=lH X6.out;go_wp2_with fail;clear u0 uzq u1 u2 u3 u4 u5 u6 u7 v0 vzq v1 v2 v3 v4 v5 v6 v7;rw [←Qw6.out];refine bR (rcH (s8_at Y6.out)) rfl ?_;rw [HRR.out];exact gfq_sets (r:=.bad jr1 yr1) (x:=y) (fun f j h=>nomatch h) YB.out
  · obtain ⟨f,hxi,hre⟩:=HS.out.more hk;have HRE0:=Hd hre;have HI1:=Hd hxi;have HFU0:Hid (l.length≤fuel+j):=HS.out.fu;have X11:Hid (wr.heap[b11]?=some (.cells #[.int .i64 x.o,.int .i64 x.tn,.int .i64 x.tm,.string x.s,.slice x.Ae x.ne x.ce,.slice x.A x.n x.c,.int .i64 (j:Nat),.int .i64 0] 150 (0,0))):=by have h:=HS.out.x11;rw [iN hk] at h;exact h
    clear HS hxi hre;have hkb:((k:Int) == 0)=false:=by simpa using hk
    have hkp:(0:Int)<(k:Int):=by omega
    have hI:=rfis_any A c j l 4 ⟨#[38]⟩ wr (HP.out.below HB.out) (by omega);rw [show isTk l j 4 (bs ⟨#[38]⟩)=isTk l j 4 [38] from rfl,←HN.out] at hI
    by_cases ht:isTk l j 4 [38]=true
    · rw [ht] at hI;have HI:=Hd hI;have hjlt:j<n:=by rw [HN.out];exact isTk_lt ht
      obtain ⟨fu,hfu⟩:∃ fu,fuel=fu+1:=⟨fuel - 1,by have:=HFU0.out;have:=HN.out;omega⟩;have HRE:Hid (((P (j+1)).then fun g m=>rowL l 3 [38] P fu (fmOf 3 [f,g]) m)=r):=by show _=_;rw [←HRE0.out,hfu,rowL,iP ht]
      have HFU:Hid (l.length≤fu+(j+1)):=by show _≤_;have:=HFU0.out;omega
      clear hI ht hfu HRE0 HFU0;go_wp2_with fail;refine (HI.out).mono ?_;rintro e w' ⟨rfl,hww⟩;rw [hww];clear hww HI;obtain ⟨b13,hb13⟩:=ex_ wr.heap.size;obtain ⟨wb,hwb⟩:=ex_ (wr.alloc (.cells #[.int .i64 0,.int .i64 0,.int .i64 0,.string ⟨#[]⟩,.slice none 0 0,.slice none 0 0,.int .i64 0,.int .i64 0] 150));have X13:=nAl hwb hb13;have hal:=bAl hwb;have hg13:b11<b13:=by have:=lH X11.out;omega
      have Qb13:=Hd hb13;replace HI1:Hid (x.Is (fun q=>w.heap.size<q∧q≠b11∧q≠b13) wr f):=HI1.out.keep Kr (fun q hq h=>⟨h.1,h.2,by omega⟩);have Qwb:=Hd hwb;clear hb13 hwb;replace X6:=kX hal X6;replace X11:=kX hal X11;replace HB:=kB HB hal;replace HI1:Hid (x.Is (fun q=>w.heap.size<q∧q≠b11∧q≠b13) wb f):=HI1.out.keep (Kb hal) (fun _ _ h=>h);clear hal;have hcf:=HFN.out (j+1) wb (by rw [←HN.out];omega) (HP.out.below HB.out);rw [show ((j+1:Nat):Int)=(j:Int)+1 from by omega] at hcf;obtain ⟨r1,HRr1⟩:=exh_ (P (j+1));rw [←HRr1.out,←HN.out] at hcf;have HC:=Hd hcf;clear hcf;go_wp2_with fail;rw [←Qwb.out,←Qb13.out];(try go_wp2_with fail);refine (HC.out).mono ?_;rintro e w5 ⟨y,rfl,hx,hb2⟩;obtain ⟨jr1,HJr1⟩:=exh_ r1.at_;obtain ⟨yr1,HYr1⟩:=exh_ r1.err;rw [←HJr1.out,←HYr1.out];have HXy:Hid (∀ f j,r1=.ok f j→y.Is (fun q=>w.heap.size<q∧q≠b11∧q≠b13) w5 f):=fun f j h=>(hx f j h).keep Kr (fun q _ h=>by have:=lH X13.out;omega);clear hx HC;replace X6:=kX hb2 X6;replace X11:=kX hb2 X11;replace X13:=kX hb2 X13;replace HB:=kB HB hb2;replace HI1:Hid (x.Is (fun q=>w.heap.size<q∧q≠b11∧q≠b13) w5 f):=HI1.out.keep (Kb hb2) (fun _ _ h=>h);clear hb2
      obtain ⟨w6,hw6⟩:=ex_ (((((((((w5.setCell ⟨b13,0,none⟩ (.int .i64 y.o)).setCell ⟨b13,1,none⟩ (.int .i64 y.tn)).setCell ⟨b13,2,none⟩ (.int .i64 y.tm)).setCell ⟨b13,3,none⟩ (.string y.s)).setCell ⟨b13,4,none⟩ (.slice y.Ae y.ne y.ce)).setCell ⟨b13,5,none⟩ (.slice y.A y.n y.c)).setCell ⟨b13,6,none⟩ (.int .i64 (jr1:Nat))).setCell ⟨b13,7,none⟩ (.int .i64 yr1)));have hw13:w.heap.size≤b13:=by omega
      have Y13:Hid (w6.heap[b13]?=some (.cells #[.int .i64 y.o,.int .i64 y.tn,.int .i64 y.tm,.string y.s,.slice y.Ae y.ne y.ce,.slice y.A y.n y.c,.int .i64 (jr1:Nat),.int .i64 yr1] 150 (0,0))):=by show _=_;rw [hw6];exact s8_at X13.out
      have Y11:Hid (w6.heap[b11]?=some (.cells #[.int .i64 x.o,.int .i64 x.tn,.int .i64 x.tm,.string x.s,.slice x.Ae x.ne x.ce,.slice x.A x.n x.c,.int .i64 (j:Nat),.int .i64 0] 150 (0,0))):=by show _=_;rw [hw6];exact (s8_far (by omega)).trans X11.out
      have Y6:Hid (w6.heap[w.heap.size]?=some (.cells #[.int .i64 0,.int .i64 0,.int .i64 0,.string ⟨#[]⟩,.slice none 0 0,.slice none 0 0,.int .i64 0,.int .i64 0] 150 (0,0))):=by show _=_;rw [hw6];exact (s8_far (by omega)).trans X6.out
      have YB:Hid (Below w.heap.size w w6):=by show Below _ _ _;rw [hw6];exact s8_below HB.out hw13
      have YY:Hid (∀ f j,r1=.ok f j→y.Is (fun q=>w.heap.size<q∧q≠b11∧q≠b13) w6 f):=fun f j h=>by rw [hw6];exact (HXy.out f j h).keep (s8_keep Kr (by simp)) (fun _ _ h=>h)
      have YI:Hid (x.Is (fun q=>w.heap.size<q∧q≠b11∧q≠b13) w6 f):=by show FV.Is _ _ _ _;rw [hw6];exact HI1.out.keep (s8_keep Kr (by simp)) (fun _ _ h=>h)
      have Qw6:=Hd hw6;clear hw6 HXy HI1
      by_cases hy:yr1=0
      · obtain ⟨g,hg⟩:=rs_ok HJr1.out HYr1.out hy (fun j e h=>HZ.out _ j e (by rw [←HRr1.out];exact h));have hgd:=HG.out (j+1) g jr1 (by rw [←HRr1.out];exact hg);have hjl1:=hgd.jl;have hij1:=hgd.ij;rw [←HN.out] at hjl1;have HIY:Hid (y.Is (fun q=>w.heap.size<q∧q≠b11∧q≠b13) w6 g):=YY.out g jr1 hg;have HRE2:Hid (rowL l 3 [38] P fu (fmOf 3 [f,g]) jr1=r):=by show _=_;rw [←HRE.out,←HRr1.out,hg];rfl
        subst hy;clear hgd hg YY;have htw:=rftwo_any 3 x y w6;unfold FV.val at htw;have HTW:=Hd htw;clear htw;obtain ⟨u0,u1,u2,u3,u4,u5,u6,u7,uzq⟩:=q8 X13.out;obtain ⟨v0,v1,v2,v3,v4,v5,v6,v7,vzq⟩:=q8 Y11.out;obtain ⟨a0,a1,a2,a3,a4,a5,a6,a7,azq⟩:=q8 Y13.out;have hul:=lH X13.out;have hvl:=lH Y11.out;have hal3:=lH Y13.out;have X11p:=Hd X11.out;obtain ⟨p0,p1,p2,p3,p4,p5,p6,p7,pzq⟩:=q8 X11.out;have hpl:=lH X11.out;go_wp2_with fail;rw [←Qw6.out];(try go_wp2_with fail);clear u0 uzq u1 u2 u3 u4 u5 u6 u7 v0 vzq v1 v2 v3 v4 v5 v6 v7;clear a0 azq a1 a2 a3 a4 a5 a6 a7 p0 pzq p1 p2 p3 p4 p5 p6 p7;refine (HTW.out).mono ?_;rintro e w7 ⟨g2,rfl,hrow,hgw,hb7⟩;have Z13:=kX hb7 Y13;have Z11:=kX hb7 Y11;have Z6:=kX hb7 Y6;have ZB:=kB YB hb7;have hg2:w.heap.size<g2∧g2≠b11∧g2≠b13:=by have:=lH Y13.out;omega
        have HI9:Hid ((FV.mk 3 0 0 ⟨#[]⟩ none 0 0 (some ⟨g2,0,none⟩) 2 2).Is (fun q=>w.heap.size<q∧q≠b11∧q≠b13) w7 (fmOf 3 [f,g])):=FV.two_is (YI.out.keep (Kb hb7) (fun _ _ h=>h)) (HIY.out.keep (Kb hb7) (fun _ _ h=>h)) hg2 hrow;clear hrow hgw hb7 HTW YI HIY Y13 Y11 Y6 YB;obtain ⟨u0,u1,u2,u3,u4,u5,u6,u7,uzq⟩:=q8 Z13.out;obtain ⟨v0,v1,v2,v3,v4,v5,v6,v7,vzq⟩:=q8 Z11.out;have hul7:=lH Z13.out;have hvl7:=lH Z11.out;go_wp2_with fail;clear u0 uzq u1 u2 u3 u4 u5 u6 u7 v0 vzq v1 v2 v3 v4 v5 v6 v7;obtain ⟨w8,hw8⟩:=ex_ (((((((w7.setCell ⟨b13,0,none⟩ (.int .i64 3)).setCell ⟨b13,1,none⟩ (.int .i64 0)).setCell ⟨b13,2,none⟩ (.int .i64 0)).setCell ⟨b13,3,none⟩ (.string ⟨#[]⟩)).setCell ⟨b13,4,none⟩ (.slice none 0 0)).setCell ⟨b13,5,none⟩ (.slice (some ⟨g2,0,none⟩) 2 2)));have hk8:KeepS (fun q=>w.heap.size<q∧q≠b11∧q≠b13) w7 w8:=by rw [hw8];exact s6_keep Kr (by simp)
        have h86:w8.heap[w.heap.size]?=some (.cells #[.int .i64 0,.int .i64 0,.int .i64 0,.string ⟨#[]⟩,.slice none 0 0,.slice none 0 0,.int .i64 0,.int .i64 0] 150 (0,0)):=by rw [hw8];exact (s6_far (by omega)).trans Z6.out
        have h811:w8.heap[b11]?=some (.cells #[.int .i64 x.o,.int .i64 x.tn,.int .i64 x.tm,.string x.s,.slice x.Ae x.ne x.ce,.slice x.A x.n x.c,.int .i64 (j:Nat),.int .i64 0] 150 (0,0)):=by rw [hw8];exact (s6_far (by omega)).trans Z11.out
        have h8B:Below w.heap.size w w8:=by rw [hw8];exact (s6_only (Ob (F:=fun _=>False) ZB.out) (by omega)).below (fun q h=>h.elim) (lr _)
        rw [←hw8];clear hw8;obtain ⟨w9,hw9⟩:=ex_ (((((((((w8.setCell ⟨b11,0,none⟩ (.int .i64 3)).setCell ⟨b11,1,none⟩ (.int .i64 0)).setCell ⟨b11,2,none⟩ (.int .i64 0)).setCell ⟨b11,3,none⟩ (.string ⟨#[]⟩)).setCell ⟨b11,4,none⟩ (.slice none 0 0)).setCell ⟨b11,5,none⟩ (.slice (some ⟨g2,0,none⟩) 2 2)).setCell ⟨b11,6,none⟩ (.int .i64 (jr1:Nat))).setCell ⟨b11,7,none⟩ (.int .i64 0)))
        have hS9:GRowS w b11 l i 3 [38] P r w9 (k+1) jr1 fu (FV.mk 3 0 0 ⟨#[]⟩ none 0 0 (some ⟨g2,0,none⟩) 2 2):=by
         refine ⟨?_,?_,?_,by omega,by rw [←HN.out];exact hjl1,by have:=HFU.out;omega,fun h=>absurd h (by omega),fun _=>⟨fmOf 3 [f,g],?_,HRE2.out⟩⟩
         · rw [hw9];exact (s8_far (by omega)).trans h86
         · rw [hw9];exact s8_at h811
         · rw [hw9];exact s8_below h8B (by omega)
         · rw [hw9];exact HI9.out.keep (s8_keep hk8 (by simp)) (fun q _ h=>⟨h.1,h.2.1⟩)
        rw [←hw9];clear hw9;go_wp2_with fail
        go_roundw
        case rel=>exact ⟨k+1,jr1,fu,_,by go_num,by go_num,hS9⟩
        case measure=>
         have e1:¬((k:Int)+1=0):=by omega
         have e3:=HN.out;simp [intOf,e1,hk];omega
      · have hyb:(yr1 != 0)=true:=by simpa using hy
        have hrb:r1=.bad jr1 yr1:=rs_bad HJr1.out HYr1.out hy;have HRR:Hid (F=GFQ w (.bad jr1 yr1)):=by show _=_;rw [HF.out,←HRE.out,←HRr1.out,hrb];rfl
        clear hy hrb;obtain ⟨u0,u1,u2,u3,u4,u5,u6,u7,uzq⟩:=q8 X13.out;obtain ⟨v0,v1,v2,v3,v4,v5,v6,v7,vzq⟩:=q8 X6.out;have hul:=lH X13.out;have hvl:=lH X6.out;go_wp2_with fail;clear u0 uzq u1 u2 u3 u4 u5 u6 u7 v0 vzq v1 v2 v3 v4 v5 v6 v7;rw [←Qw6.out];refine bR (rcH (s8_at Y6.out)) rfl ?_;rw [HRR.out];exact gfq_sets (r:=.bad jr1 yr1) (x:=y) (fun f j h=>nomatch h) YB.out
    · have htf:isTk l j 4 [38]=false:=by simpa using ht
      rw [htf] at hI;have HI:=Hd hI;have HRR:Hid (F=GFQ w (.ok f j)):=by show _=_;rw [HF.out,←HRE0.out,rowL_stop2 htf]
      clear hI ht htf;go_wp2_with fail;refine (HI.out).mono ?_;rintro e w' ⟨rfl,hww⟩;rw [hww];clear hww HI;obtain ⟨u0,u1,u2,u3,u4,u5,u6,u7,uzq⟩:=q8 X11.out;obtain ⟨v0,v1,v2,v3,v4,v5,v6,v7,vzq⟩:=q8 X6.out;have hul:=lH X11.out;have hvl:=lH X6.out;go_wp2_with fail;clear u0 uzq u1 u2 u3 u4 u5 u6 u7 v0 vzq v1 v2 v3 v4 v5 v6 v7;refine bR (rcH (s8_at X6.out)) rfl ?_;rw [HRR.out]
      exact gfq_sets (r:=.ok f j) (x:=x) (fun f' j' h=>by
       obtain ⟨rfl,rfl⟩:=ok_inj h
       exact HI1.out.keep Kr (fun q _ h=>h.1)) HB.out
theorem rfrow_false (l:List Tok) (d:Nat) (P:FPar) (hd:d≤256) (hF:FnGB l d 143 true P) (hG:FGdP l P) (hZ:FNzP P):FnGB l d 143 false (rowB l 4 [124] P):=by
 intro A c i w hi hP;have HFN:=Hd (hF A c);obtain ⟨w1,hw1⟩:=ex_ (w.alloc (.cells #[.int .i64 0,.int .i64 0,.int .i64 0,.string ⟨#[]⟩,.slice none 0 0,.slice none 0 0,.int .i64 0,.int .i64 0] 150));have hb1:=bAl hw1;have hs1:w1.heap.size=w.heap.size+1:=by rw [hw1];simp
 have X6:=nAl hw1 rfl;have HB:=Hd hb1;have HW1:=Hd hw1;have HP:=Hd hP;have hlen:=hP.len;have hcap:=hP.cap;have hcapm:=hP.capm;unfold maxLen at hcapm;obtain ⟨n,hn⟩:=ex_ l.length;have HN:=Hd hn;rw [←hn] at hi hlen hcap;obtain ⟨r,hr⟩:=ex_ (rowB l 4 [124] P i);obtain ⟨F,HF⟩:=exh_ (GFQ w r);rw [←hr,←HF.out];have HR0:Hid (((P i).then fun f m=>rowL l 4 [124] P l.length f m)=r):=by show _=_;rw [hr];rfl
 have HG:=Hd hG;have HZ:=Hd hZ;rw [←hn];obtain ⟨b11,hb11⟩:=ex_ (w.heap.size+1);obtain ⟨w2,hw2⟩:=ex_ (w1.alloc (.cells #[.int .i64 0,.int .i64 0,.int .i64 0,.string ⟨#[]⟩,.slice none 0 0,.slice none 0 0,.int .i64 0,.int .i64 0] 150));have hal:=bAl hw2
 have x11:w2.heap[b11]?=some (.cells #[.int .i64 0,.int .i64 0,.int .i64 0,.string ⟨#[]⟩,.slice none 0 0,.slice none 0 0,.int .i64 0,.int .i64 0] 150 (0,0)):=by
  have h:=hA_ w1 (.cells #[.int .i64 0,.int .i64 0,.int .i64 0,.string ⟨#[]⟩,.slice none 0 0,.slice none 0 0,.int .i64 0,.int .i64 0] 150);rw [hw2,hb11];rw [hs1] at h;exact h
 have HS0:Hid (GRowS w b11 l i 4 [124] P r w2 0 i l.length FV.zero):=⟨(hal.block w.heap.size (by omega)).trans X6.out,x11,HB.out.trans (hal.mono (by omega)),zl _,by rw [←hn];exact hi,by omega,fun _=>HR0.out,fun h=>absurd rfl h⟩;have HW2:Hid (w2=(w.alloc (.cells #[.int .i64 0,.int .i64 0,.int .i64 0,.string ⟨#[]⟩,.slice none 0 0,.slice none 0 0,.int .i64 0,.int .i64 0] 150)).alloc (.cells #[.int .i64 0,.int .i64 0,.int .i64 0,.string ⟨#[]⟩,.slice none 0 0,.slice none 0 0,.int .i64 0,.int .i64 0] 150)):=by show _=_;rw [hw2,hw1]
 have Q11:=Hd hb11;have hg11:w.heap.size<b11:=by omega
 clear hF hG hZ hw1 hP hn hr hb1 X6 HB HW1 hb11 hw2 hal x11 HR0;go_enter Tryz.func143,Tryz.ntmps143;go_wp2_with fail;rw [←HW2.out,←Q11.out]
 go_loopw [1,12] (fun si sn wr=>∃ (k j fuel:Nat) (x:FV),si=.int .i64 (j:Nat)∧sn=.int .i64 (k:Nat)∧GRowS w b11 l i 4 [124] P r wr k j fuel x) (fun si sn _=>if intOf sn=0 then l.length+2 else l.length+1 - (intOf si).toNat)
 case atStart=>exact ⟨0,i,l.length,FV.zero,rfl,rfl,HS0.out⟩
 case round=>
  obtain ⟨k,j,fuel,x,rfl,rfl,hS⟩:=hrel;clear HS0;have HS:=Hd hS;have HB:=Hd hS.below;have X6:=Hd hS.x6;have hkj:=hS.kj;have hjl:=hS.jl;rw [←HN.out] at hjl;clear hS
  by_cases hk:k=0
  · subst hk;have HRE:Hid (((P j).then fun f m=>rowL l 4 [124] P fuel f m)=r):=HS.out.zero rfl;have HFU:Hid (l.length≤fuel+j):=HS.out.fu;have X11:Hid (wr.heap[b11]?=some (.cells #[.int .i64 x.o,.int .i64 x.tn,.int .i64 x.tm,.string x.s,.slice x.Ae x.ne x.ce,.slice x.A x.n x.c,.int .i64 (0:Nat),.int .i64 0] 150 (0,0))):=HS.out.x11;clear HS;rw [show ((0:Nat):Int)=0 from rfl];obtain ⟨b13,hb13⟩:=ex_ wr.heap.size;obtain ⟨wb,hwb⟩:=ex_ (wr.alloc (.cells #[.int .i64 0,.int .i64 0,.int .i64 0,.string ⟨#[]⟩,.slice none 0 0,.slice none 0 0,.int .i64 0,.int .i64 0] 150));have X13:=nAl hwb hb13;have hal:=bAl hwb;have hg13:b11<b13:=by have:=lH X11.out;omega
    have Qb13:=Hd hb13;have Qwb:=Hd hwb;clear hb13 hwb;replace X6:=kX hal X6;replace X11:=kX hal X11;replace HB:=kB HB hal;clear hal;have hcf:=HFN.out (j) wb (by rw [←HN.out];omega) (HP.out.below HB.out);obtain ⟨r1,HRr1⟩:=exh_ (P (j));rw [←HRr1.out,←HN.out] at hcf;have HC:=Hd hcf;clear hcf;go_wp2_with fail;rw [←Qwb.out,←Qb13.out];(try go_wp2_with fail);refine (HC.out).mono ?_;rintro e w5 ⟨y,rfl,hx,hb2⟩;obtain ⟨jr1,HJr1⟩:=exh_ r1.at_;obtain ⟨yr1,HYr1⟩:=exh_ r1.err;rw [←HJr1.out,←HYr1.out];have HXy:Hid (∀ f j,r1=.ok f j→y.Is (fun q=>w.heap.size<q∧q≠b11∧q≠b13) w5 f):=fun f j h=>(hx f j h).keep Kr (fun q _ h=>by have:=lH X13.out;omega);clear hx HC;replace X6:=kX hb2 X6;replace X11:=kX hb2 X11;replace X13:=kX hb2 X13;replace HB:=kB HB hb2;clear hb2;obtain ⟨w6,hw6⟩:=ex_ (((((((((w5.setCell ⟨b13,0,none⟩ (.int .i64 y.o)).setCell ⟨b13,1,none⟩ (.int .i64 y.tn)).setCell ⟨b13,2,none⟩ (.int .i64 y.tm)).setCell ⟨b13,3,none⟩ (.string y.s)).setCell ⟨b13,4,none⟩ (.slice y.Ae y.ne y.ce)).setCell ⟨b13,5,none⟩ (.slice y.A y.n y.c)).setCell ⟨b13,6,none⟩ (.int .i64 (jr1:Nat))).setCell ⟨b13,7,none⟩ (.int .i64 yr1)));have hw13:w.heap.size≤b13:=by omega
    have Y13:Hid (w6.heap[b13]?=some (.cells #[.int .i64 y.o,.int .i64 y.tn,.int .i64 y.tm,.string y.s,.slice y.Ae y.ne y.ce,.slice y.A y.n y.c,.int .i64 (jr1:Nat),.int .i64 yr1] 150 (0,0))):=by show _=_;rw [hw6];exact s8_at X13.out
    have Y11:Hid (w6.heap[b11]?=some (.cells #[.int .i64 x.o,.int .i64 x.tn,.int .i64 x.tm,.string x.s,.slice x.Ae x.ne x.ce,.slice x.A x.n x.c,.int .i64 (0:Nat),.int .i64 0] 150 (0,0))):=by show _=_;rw [hw6];exact (s8_far (by omega)).trans X11.out
    have Y6:Hid (w6.heap[w.heap.size]?=some (.cells #[.int .i64 0,.int .i64 0,.int .i64 0,.string ⟨#[]⟩,.slice none 0 0,.slice none 0 0,.int .i64 0,.int .i64 0] 150 (0,0))):=by show _=_;rw [hw6];exact (s8_far (by omega)).trans X6.out
    have YB:Hid (Below w.heap.size w w6):=by show Below _ _ _;rw [hw6];exact s8_below HB.out hw13
    have YY:Hid (∀ f j,r1=.ok f j→y.Is (fun q=>w.heap.size<q∧q≠b11∧q≠b13) w6 f):=fun f j h=>by rw [hw6];exact (HXy.out f j h).keep (s8_keep Kr (by simp)) (fun _ _ h=>h)
    have Qw6:=Hd hw6;clear hw6 HXy
    by_cases hy:yr1=0
    · obtain ⟨g,hg⟩:=rs_ok HJr1.out HYr1.out hy (fun j e h=>HZ.out _ j e (by rw [←HRr1.out];exact h));have hgd:=HG.out (j) g jr1 (by rw [←HRr1.out];exact hg);have hjl1:=hgd.jl;have hij1:=hgd.ij;rw [←HN.out] at hjl1;have HIY:Hid (y.Is (fun q=>w.heap.size<q∧q≠b11∧q≠b13) w6 g):=YY.out g jr1 hg;have HRE2:Hid (rowL l 4 [124] P fuel g jr1=r):=by show _=_;rw [←HRE.out,←HRr1.out,hg];rfl
      subst hy;clear hgd hg YY;obtain ⟨u0,u1,u2,u3,u4,u5,u6,u7,uzq⟩:=q8 X13.out;obtain ⟨v0,v1,v2,v3,v4,v5,v6,v7,vzq⟩:=q8 X11.out;have hul:=lH X13.out;have hvl:=lH X11.out;go_wp2_with fail;clear u0 uzq u1 u2 u3 u4 u5 u6 u7 v0 vzq v1 v2 v3 v4 v5 v6 v7;rw [←Qw6.out];obtain ⟨w9,hw9⟩:=ex_ (((((((((w6.setCell ⟨b11,0,none⟩ (.int .i64 y.o)).setCell ⟨b11,1,none⟩ (.int .i64 y.tn)).setCell ⟨b11,2,none⟩ (.int .i64 y.tm)).setCell ⟨b11,3,none⟩ (.string y.s)).setCell ⟨b11,4,none⟩ (.slice y.Ae y.ne y.ce)).setCell ⟨b11,5,none⟩ (.slice y.A y.n y.c)).setCell ⟨b11,6,none⟩ (.int .i64 (jr1:Nat))).setCell ⟨b11,7,none⟩ (.int .i64 0)))
      have hS9:GRowS w b11 l i 4 [124] P r w9 1 jr1 fuel y:=by
       refine ⟨?_,?_,?_,by omega,by rw [←HN.out];exact hjl1,by have:=HFU.out;omega,fun h=>absurd h (by decide),fun _=>⟨g,?_,HRE2.out⟩⟩
       · rw [hw9];exact (s8_far (by omega)).trans Y6.out
       · rw [hw9];exact s8_at Y11.out
       · rw [hw9];exact s8_below YB.out (by omega)
       · rw [hw9];exact HIY.out.keep (s8_keep Kr (by simp)) (fun q _ h=>⟨h.1,h.2.1⟩)
      rw [←hw9];clear hw9;go_wp2_with fail
      go_roundw
      case rel=>exact ⟨1,jr1,fuel,y,by go_num,by go_num,hS9⟩
      case measure=>simp [intOf];try omega
    · have hyb:(yr1 != 0)=true:=by simpa using hy
      have hrb:r1=.bad jr1 yr1:=rs_bad HJr1.out HYr1.out hy;have HRR:Hid (F=GFQ w (.bad jr1 yr1)):=by show _=_;rw [HF.out,←HRE.out,←HRr1.out,hrb];rfl
      clear hy hrb;obtain ⟨u0,u1,u2,u3,u4,u5,u6,u7,uzq⟩:=q8 X13.out;obtain ⟨v0,v1,v2,v3,v4,v5,v6,v7,vzq⟩:=q8 X6.out;have hul:=lH X13.out;have hvl:=lH X6.out;go_wp2_with fail;clear u0 uzq u1 u2 u3 u4 u5 u6 u7 v0 vzq v1 v2 v3 v4 v5 v6 v7;rw [←Qw6.out];refine bR (rcH (s8_at Y6.out)) rfl ?_;rw [HRR.out];exact gfq_sets (r:=.bad jr1 yr1) (x:=y) (fun f j h=>nomatch h) YB.out
  · obtain ⟨f,hxi,hre⟩:=HS.out.more hk;have HRE0:=Hd hre;have HI1:=Hd hxi;have HFU0:Hid (l.length≤fuel+j):=HS.out.fu;have X11:Hid (wr.heap[b11]?=some (.cells #[.int .i64 x.o,.int .i64 x.tn,.int .i64 x.tm,.string x.s,.slice x.Ae x.ne x.ce,.slice x.A x.n x.c,.int .i64 (j:Nat),.int .i64 0] 150 (0,0))):=by have h:=HS.out.x11;rw [iN hk] at h;exact h
    clear HS hxi hre;have hkb:((k:Int) == 0)=false:=by simpa using hk
    have hkp:(0:Int)<(k:Int):=by omega
    have hI:=rfis_any A c j l 4 ⟨#[124]⟩ wr (HP.out.below HB.out) (by omega);rw [show isTk l j 4 (bs ⟨#[124]⟩)=isTk l j 4 [124] from rfl,←HN.out] at hI
    by_cases ht:isTk l j 4 [124]=true
    · rw [ht] at hI;have HI:=Hd hI;have hjlt:j<n:=by rw [HN.out];exact isTk_lt ht
      obtain ⟨fu,hfu⟩:∃ fu,fuel=fu+1:=⟨fuel - 1,by have:=HFU0.out;have:=HN.out;omega⟩;have HRE:Hid (((P (j+1)).then fun g m=>rowL l 4 [124] P fu (fmOf 4 [f,g]) m)=r):=by show _=_;rw [←HRE0.out,hfu,rowL,iP ht]
      have HFU:Hid (l.length≤fu+(j+1)):=by show _≤_;have:=HFU0.out;omega
      clear hI ht hfu HRE0 HFU0;go_wp2_with fail;refine (HI.out).mono ?_;rintro e w' ⟨rfl,hww⟩;rw [hww];clear hww HI;obtain ⟨b13,hb13⟩:=ex_ wr.heap.size;obtain ⟨wb,hwb⟩:=ex_ (wr.alloc (.cells #[.int .i64 0,.int .i64 0,.int .i64 0,.string ⟨#[]⟩,.slice none 0 0,.slice none 0 0,.int .i64 0,.int .i64 0] 150));have X13:=nAl hwb hb13;have hal:=bAl hwb;have hg13:b11<b13:=by have:=lH X11.out;omega
      have Qb13:=Hd hb13;replace HI1:Hid (x.Is (fun q=>w.heap.size<q∧q≠b11∧q≠b13) wr f):=HI1.out.keep Kr (fun q hq h=>⟨h.1,h.2,by omega⟩);have Qwb:=Hd hwb;clear hb13 hwb;replace X6:=kX hal X6;replace X11:=kX hal X11;replace HB:=kB HB hal;replace HI1:Hid (x.Is (fun q=>w.heap.size<q∧q≠b11∧q≠b13) wb f):=HI1.out.keep (Kb hal) (fun _ _ h=>h);clear hal;have hcf:=HFN.out (j+1) wb (by rw [←HN.out];omega) (HP.out.below HB.out);rw [show ((j+1:Nat):Int)=(j:Int)+1 from by omega] at hcf;obtain ⟨r1,HRr1⟩:=exh_ (P (j+1));rw [←HRr1.out,←HN.out] at hcf;have HC:=Hd hcf;clear hcf;go_wp2_with fail;rw [←Qwb.out,←Qb13.out];(try go_wp2_with fail);refine (HC.out).mono ?_;rintro e w5 ⟨y,rfl,hx,hb2⟩;obtain ⟨jr1,HJr1⟩:=exh_ r1.at_;obtain ⟨yr1,HYr1⟩:=exh_ r1.err;rw [←HJr1.out,←HYr1.out];have HXy:Hid (∀ f j,r1=.ok f j→y.Is (fun q=>w.heap.size<q∧q≠b11∧q≠b13) w5 f):=fun f j h=>(hx f j h).keep Kr (fun q _ h=>by have:=lH X13.out;omega);clear hx HC;replace X6:=kX hb2 X6;replace X11:=kX hb2 X11;replace X13:=kX hb2 X13;replace HB:=kB HB hb2;replace HI1:Hid (x.Is (fun q=>w.heap.size<q∧q≠b11∧q≠b13) w5 f):=HI1.out.keep (Kb hb2) (fun _ _ h=>h);clear hb2
      obtain ⟨w6,hw6⟩:=ex_ (((((((((w5.setCell ⟨b13,0,none⟩ (.int .i64 y.o)).setCell ⟨b13,1,none⟩ (.int .i64 y.tn)).setCell ⟨b13,2,none⟩ (.int .i64 y.tm)).setCell ⟨b13,3,none⟩ (.string y.s)).setCell ⟨b13,4,none⟩ (.slice y.Ae y.ne y.ce)).setCell ⟨b13,5,none⟩ (.slice y.A y.n y.c)).setCell ⟨b13,6,none⟩ (.int .i64 (jr1:Nat))).setCell ⟨b13,7,none⟩ (.int .i64 yr1)));have hw13:w.heap.size≤b13:=by omega
      have Y13:Hid (w6.heap[b13]?=some (.cells #[.int .i64 y.o,.int .i64 y.tn,.int .i64 y.tm,.string y.s,.slice y.Ae y.ne y.ce,.slice y.A y.n y.c,.int .i64 (jr1:Nat),.int .i64 yr1] 150 (0,0))):=by show _=_;rw [hw6];exact s8_at X13.out
      have Y11:Hid (w6.heap[b11]?=some (.cells #[.int .i64 x.o,.int .i64 x.tn,.int .i64 x.tm,.string x.s,.slice x.Ae x.ne x.ce,.slice x.A x.n x.c,.int .i64 (j:Nat),.int .i64 0] 150 (0,0))):=by show _=_;rw [hw6];exact (s8_far (by omega)).trans X11.out
      have Y6:Hid (w6.heap[w.heap.size]?=some (.cells #[.int .i64 0,.int .i64 0,.int .i64 0,.string ⟨#[]⟩,.slice none 0 0,.slice none 0 0,.int .i64 0,.int .i64 0] 150 (0,0))):=by show _=_;rw [hw6];exact (s8_far (by omega)).trans X6.out
      have YB:Hid (Below w.heap.size w w6):=by show Below _ _ _;rw [hw6];exact s8_below HB.out hw13
      have YY:Hid (∀ f j,r1=.ok f j→y.Is (fun q=>w.heap.size<q∧q≠b11∧q≠b13) w6 f):=fun f j h=>by rw [hw6];exact (HXy.out f j h).keep (s8_keep Kr (by simp)) (fun _ _ h=>h)
      have YI:Hid (x.Is (fun q=>w.heap.size<q∧q≠b11∧q≠b13) w6 f):=by show FV.Is _ _ _ _;rw [hw6];exact HI1.out.keep (s8_keep Kr (by simp)) (fun _ _ h=>h)
      have Qw6:=Hd hw6;clear hw6 HXy HI1
      by_cases hy:yr1=0
      · obtain ⟨g,hg⟩:=rs_ok HJr1.out HYr1.out hy (fun j e h=>HZ.out _ j e (by rw [←HRr1.out];exact h));have hgd:=HG.out (j+1) g jr1 (by rw [←HRr1.out];exact hg);have hjl1:=hgd.jl;have hij1:=hgd.ij;rw [←HN.out] at hjl1;have HIY:Hid (y.Is (fun q=>w.heap.size<q∧q≠b11∧q≠b13) w6 g):=YY.out g jr1 hg;have HRE2:Hid (rowL l 4 [124] P fu (fmOf 4 [f,g]) jr1=r):=by show _=_;rw [←HRE.out,←HRr1.out,hg];rfl
        subst hy;clear hgd hg YY;have htw:=rftwo_any 4 x y w6;unfold FV.val at htw;have HTW:=Hd htw;clear htw;obtain ⟨u0,u1,u2,u3,u4,u5,u6,u7,uzq⟩:=q8 X13.out;obtain ⟨v0,v1,v2,v3,v4,v5,v6,v7,vzq⟩:=q8 Y11.out;obtain ⟨a0,a1,a2,a3,a4,a5,a6,a7,azq⟩:=q8 Y13.out;have hul:=lH X13.out;have hvl:=lH Y11.out;have hal3:=lH Y13.out;have X11p:=Hd X11.out;obtain ⟨p0,p1,p2,p3,p4,p5,p6,p7,pzq⟩:=q8 X11.out;have hpl:=lH X11.out;go_wp2_with fail;rw [←Qw6.out];(try go_wp2_with fail);clear u0 uzq u1 u2 u3 u4 u5 u6 u7 v0 vzq v1 v2 v3 v4 v5 v6 v7;clear a0 azq a1 a2 a3 a4 a5 a6 a7 p0 pzq p1 p2 p3 p4 p5 p6 p7;refine (HTW.out).mono ?_;rintro e w7 ⟨g2,rfl,hrow,hgw,hb7⟩;have Z13:=kX hb7 Y13;have Z11:=kX hb7 Y11;have Z6:=kX hb7 Y6;have ZB:=kB YB hb7;have hg2:w.heap.size<g2∧g2≠b11∧g2≠b13:=by have:=lH Y13.out;omega
        have HI9:Hid ((FV.mk 4 0 0 ⟨#[]⟩ none 0 0 (some ⟨g2,0,none⟩) 2 2).Is (fun q=>w.heap.size<q∧q≠b11∧q≠b13) w7 (fmOf 4 [f,g])):=FV.two_is (YI.out.keep (Kb hb7) (fun _ _ h=>h)) (HIY.out.keep (Kb hb7) (fun _ _ h=>h)) hg2 hrow;clear hrow hgw hb7 HTW YI HIY Y13 Y11 Y6 YB;obtain ⟨u0,u1,u2,u3,u4,u5,u6,u7,uzq⟩:=q8 Z13.out;obtain ⟨v0,v1,v2,v3,v4,v5,v6,v7,vzq⟩:=q8 Z11.out;have hul7:=lH Z13.out;have hvl7:=lH Z11.out;go_wp2_with fail;clear u0 uzq u1 u2 u3 u4 u5 u6 u7 v0 vzq v1 v2 v3 v4 v5 v6 v7;obtain ⟨w8,hw8⟩:=ex_ (((((((w7.setCell ⟨b13,0,none⟩ (.int .i64 4)).setCell ⟨b13,1,none⟩ (.int .i64 0)).setCell ⟨b13,2,none⟩ (.int .i64 0)).setCell ⟨b13,3,none⟩ (.string ⟨#[]⟩)).setCell ⟨b13,4,none⟩ (.slice none 0 0)).setCell ⟨b13,5,none⟩ (.slice (some ⟨g2,0,none⟩) 2 2)));have hk8:KeepS (fun q=>w.heap.size<q∧q≠b11∧q≠b13) w7 w8:=by rw [hw8];exact s6_keep Kr (by simp)
        have h86:w8.heap[w.heap.size]?=some (.cells #[.int .i64 0,.int .i64 0,.int .i64 0,.string ⟨#[]⟩,.slice none 0 0,.slice none 0 0,.int .i64 0,.int .i64 0] 150 (0,0)):=by rw [hw8];exact (s6_far (by omega)).trans Z6.out
        have h811:w8.heap[b11]?=some (.cells #[.int .i64 x.o,.int .i64 x.tn,.int .i64 x.tm,.string x.s,.slice x.Ae x.ne x.ce,.slice x.A x.n x.c,.int .i64 (j:Nat),.int .i64 0] 150 (0,0)):=by rw [hw8];exact (s6_far (by omega)).trans Z11.out
        have h8B:Below w.heap.size w w8:=by rw [hw8];exact (s6_only (Ob (F:=fun _=>False) ZB.out) (by omega)).below (fun q h=>h.elim) (lr _)
        rw [←hw8];clear hw8;obtain ⟨w9,hw9⟩:=ex_ (((((((((w8.setCell ⟨b11,0,none⟩ (.int .i64 4)).setCell ⟨b11,1,none⟩ (.int .i64 0)).setCell ⟨b11,2,none⟩ (.int .i64 0)).setCell ⟨b11,3,none⟩ (.string ⟨#[]⟩)).setCell ⟨b11,4,none⟩ (.slice none 0 0)).setCell ⟨b11,5,none⟩ (.slice (some ⟨g2,0,none⟩) 2 2)).setCell ⟨b11,6,none⟩ (.int .i64 (jr1:Nat))).setCell ⟨b11,7,none⟩ (.int .i64 0)))
        have hS9:GRowS w b11 l i 4 [124] P r w9 (k+1) jr1 fu (FV.mk 4 0 0 ⟨#[]⟩ none 0 0 (some ⟨g2,0,none⟩) 2 2):=by
         refine ⟨?_,?_,?_,by omega,by rw [←HN.out];exact hjl1,by have:=HFU.out;omega,fun h=>absurd h (by omega),fun _=>⟨fmOf 4 [f,g],?_,HRE2.out⟩⟩
         · rw [hw9];exact (s8_far (by omega)).trans h86
         · rw [hw9];exact s8_at h811
         · rw [hw9];exact s8_below h8B (by omega)
         · rw [hw9];exact HI9.out.keep (s8_keep hk8 (by simp)) (fun q _ h=>⟨h.1,h.2.1⟩)
        rw [←hw9];clear hw9;go_wp2_with fail
        go_roundw
        case rel=>exact ⟨k+1,jr1,fu,_,by go_num,by go_num,hS9⟩
        case measure=>
         have e1:¬((k:Int)+1=0):=by omega
         have e3:=HN.out;simp [intOf,e1,hk];omega
      · have hyb:(yr1 != 0)=true:=by simpa using hy
        have hrb:r1=.bad jr1 yr1:=rs_bad HJr1.out HYr1.out hy;have HRR:Hid (F=GFQ w (.bad jr1 yr1)):=by show _=_;rw [HF.out,←HRE.out,←HRr1.out,hrb];rfl
        clear hy hrb;obtain ⟨u0,u1,u2,u3,u4,u5,u6,u7,uzq⟩:=q8 X13.out;obtain ⟨v0,v1,v2,v3,v4,v5,v6,v7,vzq⟩:=q8 X6.out;have hul:=lH X13.out;have hvl:=lH X6.out;go_wp2_with fail;clear u0 uzq u1 u2 u3 u4 u5 u6 u7 v0 vzq v1 v2 v3 v4 v5 v6 v7;rw [←Qw6.out];refine bR (rcH (s8_at Y6.out)) rfl ?_;rw [HRR.out];exact gfq_sets (r:=.bad jr1 yr1) (x:=y) (fun f j h=>nomatch h) YB.out
    · have htf:isTk l j 4 [124]=false:=by simpa using ht
      rw [htf] at hI;have HI:=Hd hI;have HRR:Hid (F=GFQ w (.ok f j)):=by show _=_;rw [HF.out,←HRE0.out,rowL_stop2 htf]
      clear hI ht htf;go_wp2_with fail;refine (HI.out).mono ?_;rintro e w' ⟨rfl,hww⟩;rw [hww];clear hww HI;obtain ⟨u0,u1,u2,u3,u4,u5,u6,u7,uzq⟩:=q8 X11.out;obtain ⟨v0,v1,v2,v3,v4,v5,v6,v7,vzq⟩:=q8 X6.out;have hul:=lH X11.out;have hvl:=lH X6.out;go_wp2_with fail;clear u0 uzq u1 u2 u3 u4 u5 u6 u7 v0 vzq v1 v2 v3 v4 v5 v6 v7;refine bR (rcH (s8_at X6.out)) rfl ?_;rw [HRR.out]
      exact gfq_sets (r:=.ok f j) (x:=x) (fun f' j' h=>by
       obtain ⟨rfl,rfl⟩:=ok_inj h
       exact HI1.out.keep Kr (fun q _ h=>h.1)) HB.out
end Go.Proofs.YtnbphgeepnknlaaGreatDoor
