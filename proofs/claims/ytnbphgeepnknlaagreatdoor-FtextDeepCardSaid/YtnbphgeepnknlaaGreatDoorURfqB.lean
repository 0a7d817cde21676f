/- Walk: the reference's form. -/
import Derived.Test.YtnbphgeepnknlaaGreatDoorUFLvs
namespace Go.Proofs.YtnbphgeepnknlaaGreatDoor
open Go.RowKit
set_option linter.unusedVariables false
set_option linter.unusedSimpArgs false
set_option maxRecDepth 100000
set_option maxHeartbeats 8000000
theorem tLRfqB {o:Array Oper} {i:Nat} {x:Oper} (h:o.toList[i]?=some x):o[i]?=some x:=by simpa using h
theorem rs_bad {r:Rs Fm} {j:Nat} {y:Int} (hj:j=r.at_) (hy:y=r.err) (h:y≠0):r=.bad j y:=by
 cases r with
 | bad a b=>rw [hj,hy];rfl
 | ok f k=>exact absurd hy h
theorem rs_ok {r:Rs Fm} {j:Nat} {y:Int} (hj:j=r.at_) (hy:y=r.err) (h:y=0) (hz:∀ j e,r=.bad j e→e≠0):∃ f,r=.ok f j:=by
 cases hc:r with
 | bad a b=>rw [hc] at hy;exact absurd (show b=0 from hy.symm.trans h) (hz a b hc)
 | ok f k=>rw [hc] at hj;exact ⟨f,by rw [hj];rfl⟩
def innG (d:Nat) (P:FPar) (i:Nat):Rs Fm:=if d=256 then .bad i 17 else P (i+1)
theorem rfform_any (l:List Tok) (d:Nat) (P PF:FPar) (hd:d≤256) (hF:FnGB l d 143 false P) (hG:FGdP l P) (hZ:FNzP P) (hFF:d<256→FnG l (d+1) 72 PF) (hZF:FNzP PF) :
 FnG l d 72 (fun i=>(P i).then fun f j=>if isTk l j 4 [45,62]=true then (innG d PF j).then fun g k=>.ok (fmOf 5 [f,g]) k else .ok f j):=by
 intro A c i w hi hP;have hcf0:=hF A c i;obtain ⟨w1,hw1⟩:=ex_ (w.alloc (.cells #[.int .i64 0,.int .i64 0,.int .i64 0,.string ⟨#[]⟩,.slice none 0 0,.slice none 0 0,.int .i64 0,.int .i64 0] 150));have hb1:=bAl hw1;have hs1:w1.heap.size=w.heap.size+1:=by rw [hw1];simp
 have X6:=nAl hw1 rfl;have HB:=Hd hb1;have HW1:=Hd hw1;have HP:=Hd hP;have hlen:=hP.len;have hcap:=hP.cap;have hcapm:=hP.capm;unfold maxLen at hcapm;obtain ⟨n,hn⟩:=ex_ l.length;have HN:=Hd hn;rw [←hn] at hi hlen hcap;obtain ⟨F,HF⟩:=exh_ (GFQ w ((P i).then fun f j=>if isTk l j 4 [45,62]=true then (innG d PF j).then fun g k=>.ok (fmOf 5 [f,g]) k else .ok f j));show Calls _ _ _ _ (GFQ w ((P i).then fun f j=>if isTk l j 4 [45,62]=true then (innG d PF j).then fun g k=>.ok (fmOf 5 [f,g]) k else .ok f j));rw [←HF.out];have HFF:=Hd hFF;have HG:=Hd hG;have HZ:=Hd hZ;have HZF:=Hd hZF;rw [←hn];clear hF hFF hG hZ hZF hw1 hP hn;go_enter Tryz.func72,Tryz.ntmps72;have hcf:=hcf0 w1 (by rw [←HN.out];exact hi) (HP.out.below HB.out);obtain ⟨r1,HRr1⟩:=exh_ (P (i));rw [←HRr1.out,←HN.out] at hcf;have HC:=Hd hcf;clear hcf;go_wp2_with fail;rw [←HW1.out];refine (HC.out).mono ?_;rintro e w2 ⟨x,rfl,hx,hb2⟩;obtain ⟨jr1,HJr1⟩:=exh_ r1.at_;obtain ⟨yr1,HYr1⟩:=exh_ r1.err;rw [←HJr1.out,←HYr1.out];have HXx:Hid (∀ f j,r1=.ok f j→x.Is (fun q=>w.heap.size<q) w2 f):=fun f j h=>(hx f j h).keep Kr (fun q _ h=>by have:=lH X6.out;omega);clear hx HC;replace X6:=kX hb2 X6;replace HB:=kB HB hb2;clear hb2;have XPb7:=X6;have HBPb7:=HB;obtain ⟨b7,hb7⟩:=ex_ w2.heap.size
 obtain ⟨w3,hw3⟩:=ex_ (w2.alloc (.cells #[.int .i64 x.o,.int .i64 x.tn,.int .i64 x.tm,.string x.s,.slice x.Ae x.ne x.ce,.slice x.A x.n x.c,.int .i64 (jr1:Nat),.int .i64 yr1] 150));have Xb7:=nAl hw3 hb7;have hal:=bAl hw3;have GTb7:w.heap.size<b7:=by have:=lH X6.out;omega
 have Qb7:=Hd hb7;have Qw3:=Hd hw3;clear hb7 hw3;replace X6:=kX hal X6;replace HB:=kB HB hal;replace HXx:Hid (∀ f j,r1=.ok f j→x.Is (fun q=>w.heap.size<q) w3 f):=fun f j h=>(HXx.out f j h).keep (Kb hal) (fun _ _ h=>h);clear hal hcf0 hb1
 by_cases hy:yr1=0
 · obtain ⟨f,hf⟩:=rs_ok HJr1.out HYr1.out hy (fun j e h=>HZ.out i j e (by rw [←HRr1.out];exact h));have hgd:=HG.out i f jr1 (by rw [←HRr1.out];exact hf);have hjl:=hgd.jl;rw [←HN.out] at hjl;have HRE:Hid (F=GFQ w (if isTk l jr1 4 [45,62]=true then (innG d PF jr1).then fun g k=>.ok (fmOf 5 [f,g]) k else .ok f jr1)):=by show _=_;rw [HF.out,←HRr1.out,hf];rfl
   have HI1:Hid (x.Is (fun q=>w.heap.size<q) w3 f):=HXx.out f jr1 hf;subst hy;clear hgd hf HXx;have hI:=rfis_any A c jr1 l 4 ⟨#[45,62]⟩ w3 (HP.out.below HB.out) (by omega);rw [show isTk l jr1 4 (bs ⟨#[45,62]⟩)=isTk l jr1 4 [45,62] from rfl,←HN.out] at hI
   by_cases hk:isTk l jr1 4 [45,62]=true
   · rw [hk] at hI;have HI:=Hd hI;have hjlt:jr1<n:=by rw [HN.out];exact isTk_lt hk
     have HRG:Hid (F=GFQ w ((innG d PF jr1).then fun g k=>.ok (fmOf 5 [f,g]) k)):=by show _=_;rw [HRE.out,iP hk]
     clear hI hk;obtain ⟨u0,u1,u2,u3,u4,u5,u6,u7,uzq⟩:=q8 Xb7.out;have hul:=lH Xb7.out
     by_cases h256:d=256
     · have hdb:((d:Int) == 256)=true:=by simp;omega
       have HRR:Hid (F=GFQ w (.bad jr1 17)):=by show _=_;rw [HRG.out];unfold innG;rw [iP h256];rfl
       have HFL:=Hd (rffail_any jr1 17 w3 (by decide));clear h256;go_wp2_with fail;rw [←Qw3.out,←Qb7.out];(try go_wp2_with fail);refine (HI.out).mono ?_;rintro e w' ⟨rfl,hww⟩;rw [hww];clear hww HI;go_wp2_with fail;refine (HFL.out).mono ?_;rintro e w4 ⟨z,rfl,-,hb2⟩;clear hul u0 uzq u1 u2 u3 u4 u5 u6 u7;replace X6:=kX hb2 X6;replace HB:=kB HB hb2;clear hb2 Xb7 HI1 HFL;simp only [Rs.at_,Rs.err];obtain ⟨v0,v1,v2,v3,v4,v5,v6,v7,vzq⟩:=q8 X6.out;have hvl:=lH X6.out;go_wp2_with fail;clear v0 vzq v1 v2 v3 v4 v5 v6 v7;refine bR (rcH (s8_at X6.out)) rfl ?_;rw [HRR.out];exact gfq_sets (r:=.bad jr1 17) (x:=z) (fun f j h=>nomatch h) HB.out
     · have hdb:((d:Int) == 256)=false:=by simp;omega
       have HRH:Hid (F=GFQ w ((PF (jr1+1)).then fun g k=>.ok (fmOf 5 [f,g]) k)):=by show _=_;rw [HRG.out];unfold innG;rw [iN h256]
       have hd2:d<256:=by omega
       clear h256;go_wp2_with fail;rw [←Qw3.out,←Qb7.out];(try go_wp2_with fail);refine (HI.out).mono ?_;rintro e w' ⟨rfl,hww⟩;rw [hww];clear hww HI;have hcf:=HFF.out hd2 A c (jr1+1) w3 (by rw [←HN.out];omega) (HP.out.below HB.out);rw [show ((jr1+1:Nat):Int)=(jr1:Int)+1 from by omega] at hcf;rw [show ((d+1:Nat):Int)=(d:Int)+1 from by omega] at hcf;obtain ⟨r2,HRr2⟩:=exh_ (PF (jr1+1));rw [←HRr2.out,←HN.out] at hcf;have HC:=Hd hcf;clear hcf;go_wp2_with fail;refine (HC.out).mono ?_;rintro e w4 ⟨y,rfl,hx,hb2⟩;obtain ⟨jr2,HJr2⟩:=exh_ r2.at_;obtain ⟨yr2,HYr2⟩:=exh_ r2.err;rw [←HJr2.out,←HYr2.out];have HXy:Hid (∀ f j,r2=.ok f j→y.Is (fun q=>w.heap.size<q) w4 f):=fun f j h=>(hx f j h).keep Kr (fun q _ h=>by have:=lH X6.out;omega);clear hx HC;replace X6:=kX hb2 X6;replace Xb7:=kX hb2 Xb7;replace HB:=kB HB hb2;replace HI1:Hid (x.Is (fun q=>w.heap.size<q) w4 f):=HI1.out.keep (Kb hb2) (fun _ _ h=>h);clear hb2 hul u0 uzq u1 u2 u3 u4 u5 u6 u7;have XPb8:=X6;have HBPb8:=HB;obtain ⟨b8,hb8⟩:=ex_ w4.heap.size;obtain ⟨w5,hw5⟩:=ex_ (w4.alloc (.cells #[.int .i64 y.o,.int .i64 y.tn,.int .i64 y.tm,.string y.s,.slice y.Ae y.ne y.ce,.slice y.A y.n y.c,.int .i64 (jr2:Nat),.int .i64 yr2] 150));have Xb8:=nAl hw5 hb8;have hal:=bAl hw5;have GTb8:w.heap.size<b8:=by have:=lH X6.out;omega
       have Qb8:=Hd hb8;have Qw5:=Hd hw5;clear hb8 hw5;replace X6:=kX hal X6;replace Xb7:=kX hal Xb7;replace HB:=kB HB hal;replace HI1:Hid (x.Is (fun q=>w.heap.size<q) w5 f):=HI1.out.keep (Kb hal) (fun _ _ h=>h);replace HXy:Hid (∀ f j,r2=.ok f j→y.Is (fun q=>w.heap.size<q) w5 f):=fun f j h=>(HXy.out f j h).keep (Kb hal) (fun _ _ h=>h);clear hal
       by_cases hy:yr2=0
       · obtain ⟨g2,hg2⟩:=rs_ok HJr2.out HYr2.out hy (fun j e h=>HZF.out _ j e (by rw [←HRr2.out];exact h));have HRR:Hid (F=GFQ w (.ok (fmOf 5 [f,g2]) jr2)):=by show _=_;rw [HRH.out,←HRr2.out,hg2];rfl
         have HI2:Hid (y.Is (fun q=>w.heap.size<q) w5 g2):=HXy.out g2 jr2 hg2;subst hy;clear hg2 HXy;obtain ⟨u0,u1,u2,u3,u4,u5,u6,u7,uzq⟩:=q8 Xb8.out;have hul:=lH Xb8.out;go_wp2_with fail;rw [←Qw5.out,←Qb8.out];(try go_wp2_with fail);clear hul u0 uzq u1 u2 u3 u4 u5 u6 u7;obtain ⟨wd,hwd⟩:=ex_ w5.drew;have hbd:Below w5.heap.size w5 wd:=by rw [hwd];exact (Br _ _).drew
         replace X6:=kX hbd X6;replace Xb7:=kX hbd Xb7;replace Xb8:=kX hbd Xb8;replace HB:=kB HB hbd;replace HI1:Hid (x.Is (fun q=>w.heap.size<q) wd f):=HI1.out.keep (Kb hbd) (fun _ _ h=>h);replace HI2:Hid (y.Is (fun q=>w.heap.size<q) wd g2):=HI2.out.keep (Kb hbd) (fun _ _ h=>h);have htw:=rftwo_any 5 x y wd;unfold FV.val at htw;have HTW:=Hd htw;refine wp_region_held_drew (S:=fun w'=>w'.heap[b7]?=some (.cells #[.int .i64 x.o,.int .i64 x.tn,.int .i64 x.tm,.string x.s,.slice x.Ae x.ne x.ce,.slice x.A x.n x.c,.int .i64 (jr1:Nat),.int .i64 0] 150 (0,0))∧w'.heap[b8]?=some (.cells #[.int .i64 y.o,.int .i64 y.tn,.int .i64 y.tm,.string y.s,.slice y.Ae y.ne y.ce,.slice y.A y.n y.c,.int .i64 (jr2:Nat),.int .i64 0] 150 (0,0))) (by kernel_rfl) (by rw [←hwd];exact ⟨Xb7.out,Xb8.out⟩) (fun hHeld=>?_);rw [←hwd] at hHeld ⊢;clear hwd hbd htw;refine tkH 0 (v:=?_) (tLRfqB rfl) (Or.inl ⟨by rfl,?hy⟩) (by assumption) ?_
         case hy=>
          intro w0 hSw;obtain ⟨h0,h1,h2,h3,h4,h5,h6,h7,-⟩:=q8 hSw.1;obtain ⟨k0,k1,k2,k3,k4,k5,k6,k7,-⟩:=q8 hSw.2;clear hSw;go_simp
          (first | done | with_reducible rfl)
         (try simp only [Act.put,sAr,sZe,sSu]);refine tkH 1 (v:=?_) (tLRfqB rfl) (Or.inl ⟨by rfl,?hy⟩) (by assumption) ?_
         case hy=>
          intro w0 hSw;obtain ⟨h0,h1,h2,h3,h4,h5,h6,h7,-⟩:=q8 hSw.1;obtain ⟨k0,k1,k2,k3,k4,k5,k6,k7,-⟩:=q8 hSw.2;clear hSw;go_simp
          (first | done | with_reducible rfl)
         (try simp only [Act.put,sAr,sZe,sSu]);refine tkH 2 (v:=?_) (tLRfqB rfl) (Or.inl ⟨by rfl,?hy⟩) (by assumption) ?_
         case hy=>
          intro w0 hSw;obtain ⟨h0,h1,h2,h3,h4,h5,h6,h7,-⟩:=q8 hSw.1;obtain ⟨k0,k1,k2,k3,k4,k5,k6,k7,-⟩:=q8 hSw.2;clear hSw;go_simp
          (first | done | with_reducible rfl)
         (try simp only [Act.put,sAr,sZe,sSu]);refine tkH 3 (v:=?_) (tLRfqB rfl) (Or.inl ⟨by rfl,?hy⟩) (by assumption) ?_
         case hy=>
          intro w0 hSw;obtain ⟨h0,h1,h2,h3,h4,h5,h6,h7,-⟩:=q8 hSw.1;obtain ⟨k0,k1,k2,k3,k4,k5,k6,k7,-⟩:=q8 hSw.2;clear hSw;go_simp
          (first | done | with_reducible rfl)
         (try simp only [Act.put,sAr,sZe,sSu]);refine tkH 5 (v:=?_) (tLRfqB rfl) (Or.inl ⟨by rfl,?hy⟩) (by assumption) ?_
         case hy=>
          intro w0 hSw;obtain ⟨h0,h1,h2,h3,h4,h5,h6,h7,-⟩:=q8 hSw.1;obtain ⟨k0,k1,k2,k3,k4,k5,k6,k7,-⟩:=q8 hSw.2;clear hSw;go_simp
          (first | done | with_reducible rfl)
         (try simp only [Act.put,sAr,sZe,sSu]);refine tkH 6 (v:=?_) (tLRfqB rfl) (Or.inl ⟨by rfl,?hy⟩) (by assumption) ?_
         case hy=>
          intro w0 hSw;obtain ⟨h0,h1,h2,h3,h4,h5,h6,h7,-⟩:=q8 hSw.1;obtain ⟨k0,k1,k2,k3,k4,k5,k6,k7,-⟩:=q8 hSw.2;clear hSw;go_simp
          (first | done | with_reducible rfl)
         (try simp only [Act.put,sAr,sZe,sSu]);refine Rd (rs:=[4]) (by kernel_rfl) (by simp) ?_;refine Rc (tLRfqB rfl) (fun K hK=>?_) Rn;go_simp;(with_reducible refine (HTW.out).mono ?_);rintro e w8 ⟨g,rfl,hrow,hgw,hb2⟩;refine hK.out _ _ ⟨(hb2.block b7 (lH Xb7.out)).trans Xb7.out,(hb2.block b8 (lH Xb8.out)).trans Xb8.out⟩ (fun hHeld=>?_);clear hK K;(try simp only [Act.put,sAr,sZe,sSu]);replace X6:=kX hb2 X6;replace HB:=kB HB hb2;replace HI1:Hid (x.Is (fun q=>w.heap.size<q) w8 f):=HI1.out.keep (Kb hb2) (fun _ _ h=>h);replace HI2:Hid (y.Is (fun q=>w.heap.size<q) w8 g2):=HI2.out.keep (Kb hb2) (fun _ _ h=>h);have HROW:=Hd hrow;have hgg:w.heap.size<g:=by have:=GTb7;have:=hb2.size;have:=lH Xb7.out;omega
         clear hb2 hrow;refine tkH 7 (v:=?_) (tLRfqB rfl) (Or.inl ⟨by rfl,?hy⟩) (by assumption) ?_
         case hy=>
          intro w0 hSw;obtain ⟨h0,h1,h2,h3,h4,h5,h6,h7,-⟩:=q8 hSw.1;obtain ⟨k0,k1,k2,k3,k4,k5,k6,k7,-⟩:=q8 hSw.2;clear hSw;go_simp
          (first | done | with_reducible rfl)
         (try simp only [Act.put,sAr,sZe,sSu]);refine Rd (rs:=[8]) (by kernel_rfl) (by simp) ?_;refine Rc (tLRfqB rfl) (fun K hK=>?_) Rn;obtain ⟨v0,v1,v2,v3,v4,v5,v6,v7,vzq⟩:=q8 X6.out;go_simp;clear v0 vzq v1 v2 v3 v4 v5 v6 v7;refine hK.out _ _ ⟨(s8_far (by omega)).trans hHeld.1,(s8_far (by omega)).trans hHeld.2⟩ (fun hHeld=>?_);clear hK K;(try simp only [Act.put,sAr,sZe,sSu]);refine wpAnyH_done (by kernel_rfl) ?_ _;clear hHeld;go_wp2_with fail;have hx6:=s8_at (v0:=.int .i64 5) (v1:=.int .i64 0) (v2:=.int .i64 0) (v3:=.string ⟨#[]⟩) (v4:=.slice none 0 0) (v5:=.slice (some ⟨g,0,none⟩) 2 2) (v6:=.int .i64 (jr2:Nat)) (v7:=.int .i64 0) X6.out;refine bR (rcH hx6) rfl ?_;rw [HRR.out]
         exact gfq_sets (r:=.ok (fmOf 5 [f,g2]) jr2) (x:=FV.mk 5 0 0 ⟨#[]⟩ none 0 0 (some ⟨g,0,none⟩) 2 2) (fun f' j' h=>by
          obtain ⟨rfl,rfl⟩:=ok_inj h
          exact FV.two_is HI1.out HI2.out hgg HROW.out) HB.out
       · have hyb:(yr2 != 0)=true:=by simpa using hy
         have hrb:r2=.bad jr2 yr2:=rs_bad HJr2.out HYr2.out hy;have HRR:Hid (F=GFQ w (.bad jr2 yr2)):=by show _=_;rw [HRH.out,←HRr2.out,hrb];rfl
         clear hy hrb;obtain ⟨v0,v1,v2,v3,v4,v5,v6,v7,vzq⟩:=q8 XPb8.out;have hvl:=lH XPb8.out;go_wp2_with fail;clear v0 vzq v1 v2 v3 v4 v5 v6 v7;refine bR (rcH (aK (s8_at XPb8.out))) rfl ?_;rw [HRR.out];exact gfq_alloc (gfq_sets (r:=.bad jr2 yr2) (x:=y) (fun f j h=>nomatch h) HBPb8.out) _
   · have hkf:isTk l jr1 4 [45,62]=false:=by simpa using hk
     rw [hkf] at hI;have HI:=Hd hI;have HRR:Hid (F=GFQ w (.ok f jr1)):=by show _=_;rw [HRE.out,iN hk]
     clear hI hk hkf;obtain ⟨u0,u1,u2,u3,u4,u5,u6,u7,uzq⟩:=q8 Xb7.out;obtain ⟨v0,v1,v2,v3,v4,v5,v6,v7,vzq⟩:=q8 X6.out;have hul:=lH Xb7.out;have hvl:=lH X6.out;go_wp2_with fail;rw [←Qw3.out,←Qb7.out];(try go_wp2_with fail);refine (HI.out).mono ?_;rintro e w' ⟨rfl,hww⟩;rw [hww];clear hww HI;go_wp2_with fail;clear u0 uzq u1 u2 u3 u4 u5 u6 u7 v0 vzq v1 v2 v3 v4 v5 v6 v7;refine bR (rcH (s8_at X6.out)) rfl ?_;rw [HRR.out]
     exact gfq_sets (r:=.ok f jr1) (x:=x) (fun f' j' h=>by
      obtain ⟨rfl,rfl⟩:=ok_inj h
      exact HI1.out) HB.out
 · have hyb:(yr1 != 0)=true:=by simpa using hy
   have hrb:r1=.bad jr1 yr1:=rs_bad HJr1.out HYr1.out hy;have HRR:Hid (F=GFQ w (.bad jr1 yr1)):=by show _=_;rw [HF.out,←HRr1.out,hrb];rfl
   clear hy hrb;obtain ⟨v0,v1,v2,v3,v4,v5,v6,v7,vzq⟩:=q8 XPb7.out;have hvl:=lH XPb7.out;go_wp2_with fail;clear v0 vzq v1 v2 v3 v4 v5 v6 v7;refine bR (rcH (aK (s8_at XPb7.out))) rfl ?_;rw [HRR.out];exact gfq_alloc (gfq_sets (r:=.bad jr1 yr1) (x:=x) (fun f j h=>nomatch h) HBPb7.out) _
end Go.Proofs.YtnbphgeepnknlaaGreatDoor
