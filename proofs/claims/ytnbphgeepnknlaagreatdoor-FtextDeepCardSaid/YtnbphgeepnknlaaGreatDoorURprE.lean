/- Walks and plain words: RprE RprG. -/
import Derived.Test.YtnbphgeepnknlaaGreatDoorURprD
namespace Go.Proofs.YtnbphgeepnknlaaGreatDoor
open Go.RowKit
set_option linter.unusedVariables false
theorem isTk_kind {l:List Tok} {i:Nat} {t:Tok} {k:Int} {s:Bs} (h:l[i]?=some t) (hk:t.kind≠k):isTk l i k s=false:=by
 unfold isTk;rw [h];simp [hk]
theorem isTk_out {l:List Tok} {i:Nat} {k:Int} {s:Bs} (h:l.length≤i):isTk l i k s=false:=by
 unfold isTk;rw [List.getElem?_eq_none h]
theorem isKd_kind {l:List Tok} {i:Nat} {t:Tok} {k:Int} (h:l[i]?=some t) (hk:t.kind≠k):isKd l i k=false:=by
 unfold isKd;rw [h];simp [hk]
theorem isKd_out {l:List Tok} {i:Nat} {k:Int} (h:l.length≤i):isKd l i k=false:=by
 unfold isKd;rw [List.getElem?_eq_none h]
theorem isKd_is {l:List Tok} {i:Nat} {t:Tok} {k:Int} (h:l[i]?=some t) (hk:t.kind=k):isKd l i k=true:=by
 unfold isKd;rw [h];simp [hk]
theorem rpunit_any (l:List Tok) (d:Nat) (T:Par) (hd:d≤256) (hT:d<256→FnR l (d+1) 69 T) (hG:GdP l T) (hZ:NzP T):FnR l d 229 (unitF l (if d=256 then none else some T)):=by
 intro A c i w hi hP;have nf:∀ {b:Bool},¬b=true→b=false:=fun h=>by simpa using h
 rcases Nat.lt_or_ge i l.length with hlt | hge
 · obtain ⟨t,ht⟩:∃ t,l[i]?=some t:=⟨_,gG hlt⟩
   by_cases k1:t.kind=1
   · have e:unitF l (if d=256 then none else some T) i=.ok (tmNum t.n) (i+1):=by
      unfold unitF;rw [iN (by rw [isTk_kind ht (by omega)];simp),iN (by rw [isTk_kind ht (by omega)];simp),iN (by rw [isTk_kind ht (by omega)];simp),iN (by rw [isTk_kind ht (by omega)];simp),iN (by rw [isTk_kind ht (by omega)];simp),iN (by rw [isTk_kind ht (by omega)];simp),iN (by rw [isKd_kind ht (by omega)];simp),iP (isKd_is ht k1),numAt_of ht]
     rw [e];exact rpunit_num A c d l i w t ht k1 hi hP
   by_cases k2:t.kind=2
   · have e:unitF l (if d=256 then none else some T) i=.ok (tmName 3 t.text) (i+1):=by
      unfold unitF;rw [iN (by rw [isTk_kind ht (by omega)];simp),iN (by rw [isTk_kind ht (by omega)];simp),iN (by rw [isTk_kind ht (by omega)];simp),iN (by rw [isTk_kind ht (by omega)];simp),iN (by rw [isTk_kind ht (by omega)];simp),iN (by rw [isTk_kind ht (by omega)];simp),iP (isKd_is ht k2),textAt_of ht]
     rw [e];exact rpunit_name A c d l i w t ht k2 hi hP
   by_cases h1:isTk l i 4 [45]=true
   · rcases Nat.lt_or_ge (i+1) l.length with hl2 | hg2
     · obtain ⟨t2,ht2⟩:∃ t,l[i+1]?=some t:=⟨_,gG hl2⟩
       by_cases hk:t2.kind=1
       · have e:unitF l (if d=256 then none else some T) i=.ok (tmNum (-t2.n)) (i+2):=by unfold unitF;rw [iP h1,iP (isKd_is ht2 hk),numAt_of ht2]
         rw [e];exact rpunit_minus_yes A c d l i w h1 t2 ht2 hk hi hP
       · have e:unitF l (if d=256 then none else some T) i=.bad (i+1) 16:=by unfold unitF;rw [iP h1,iN (by rw [isKd_kind ht2 hk];simp)]
         rw [e];exact rpunit_minus_no2 A c d l i w h1 t2 ht2 hk hi hP
     · have e:unitF l (if d=256 then none else some T) i=.bad (i+1) 16:=by unfold unitF;rw [iP h1,iN (by rw [isKd_out hg2];simp)]
       rw [e];exact rpunit_minus_no1 A c d l i w h1 hg2 hi hP
   have g1:=nf h1
   by_cases h2:isTk l i 3 wTrue=true
   · have e:unitF l (if d=256 then none else some T) i=.ok (tmBool 1) (i+1):=by unfold unitF;rw [iN h1,iP h2]
     rw [e];exact rpunit_true A c d l i w g1 h2 hi hP
   have g2:=nf h2
   by_cases h3:isTk l i 3 wFalse=true
   · have e:unitF l (if d=256 then none else some T) i=.ok (tmBool 0) (i+1):=by unfold unitF;rw [iN h1,iN h2,iP h3]
     rw [e];exact rpunit_false A c d l i w g1 g2 h3 hi hP
   have g3:=nf h3
   by_cases h4:isTk l i 3 wNext=true
   · by_cases ho:isTk l (i+1) 4 [40]=true
     · rcases Nat.lt_or_ge (i+2) l.length with hl2 | hg2
       · obtain ⟨t3,ht3⟩:∃ t,l[i+2]?=some t:=⟨_,gG hl2⟩
         by_cases hk:t3.kind=2
         · by_cases hc:isTk l (i+3) 4 [41]=true
           · have e:unitF l (if d=256 then none else some T) i=.ok (tmName 4 t3.text) (i+4):=by unfold unitF;rw [iN h1,iN h2,iN h3,iP h4,iP ho,iP (isKd_is ht3 hk),iP hc,textAt_of ht3]
             rw [e];exact rpunit_next_yes A c d l i w g1 g2 g3 h4 ho t3 ht3 hk hc hi hP
           · have e:unitF l (if d=256 then none else some T) i=.bad (i+3) 16:=by unfold unitF;rw [iN h1,iN h2,iN h3,iP h4,iP ho,iP (isKd_is ht3 hk),iN hc]
             rw [e];exact rpunit_next_no3 A c d l i w g1 g2 g3 h4 ho t3 ht3 hk (nf hc) hi hP
         · have e:unitF l (if d=256 then none else some T) i=.bad (i+2) 16:=by unfold unitF;rw [iN h1,iN h2,iN h3,iP h4,iP ho,iN (by rw [isKd_kind ht3 hk];simp)]
           rw [e];exact rpunit_next_no2b A c d l i w g1 g2 g3 h4 ho t3 ht3 hk hi hP
       · have e:unitF l (if d=256 then none else some T) i=.bad (i+2) 16:=by unfold unitF;rw [iN h1,iN h2,iN h3,iP h4,iP ho,iN (by rw [isKd_out hg2];simp)]
         rw [e];exact rpunit_next_no2a A c d l i w g1 g2 g3 h4 ho hg2 hi hP
     · have e:unitF l (if d=256 then none else some T) i=.bad (i+1) 16:=by unfold unitF;rw [iN h1,iN h2,iN h3,iP h4,iN ho]
       rw [e];exact rpunit_next_no1 A c d l i w g1 g2 g3 h4 (nf ho) hi hP
   have g4:=nf h4
   by_cases h5:isTk l i 4 [40]=true
   · by_cases h256:d=256
     · have e:unitF l (if d=256 then none else some T) i=.bad i 17:=by unfold unitF;rw [iN h1,iN h2,iN h3,iN h4,iP h5,iP h256];rfl
       rw [e];exact rpunit_open256 A c d l i w g1 g2 g3 g4 h5 h256 hi hP
     · have e:unitF l (if d=256 then none else some T) i=((T (i+1)).then fun t j=>if isTk l j 4 [41] then .ok t (j+1) else .bad j 16):=by unfold unitF;rw [iN h1,iN h2,iN h3,iN h4,iP h5,iN h256];rfl
       rw [e];exact rpunit_open A c d l i w g1 g2 g3 g4 h5 T (by omega) (hT (by omega)) hG hZ hi hP
   have g5:=nf h5
   by_cases h6:isTk l i 3 wIf=true
   · by_cases h256:d=256
     · have e:unitF l (if d=256 then none else some T) i=.bad i 17:=by unfold unitF;rw [iN h1,iN h2,iN h3,iN h4,iN h5,iP h6,iP h256];rfl
       rw [e];exact rpunit_if A c d l i w g1 g2 g3 g4 g5 h6 _ (fun A c w hP=>rpchoice256 A c d l i w h256 hi hP) hi hP
     · have e:unitF l (if d=256 then none else some T) i=ch1 l T (i+1):=by unfold unitF;rw [iN h1,iN h2,iN h3,iN h4,iN h5,iP h6,iN h256];rfl
       rw [e];exact rpunit_if A c d l i w g1 g2 g3 g4 g5 h6 _ (fun A c w hP=>rpchoice_any A c d l i w T (by omega) (hT (by omega)) hG hZ hlt hP) hi hP
   have g6:=nf h6;have e:unitF l (if d=256 then none else some T) i=.bad i 16:=by unfold unitF;rw [iN h1,iN h2,iN h3,iN h4,iN h5,iN h6,iN (by rw [isKd_kind ht k2];simp),iN (by rw [isKd_kind ht k1];simp)]
   rw [e];exact rpunit_other A c d l i w t ht k1 k2 g1 g2 g3 g4 g5 g6 hi hP
 · have e:unitF l (if d=256 then none else some T) i=.bad i 16:=by
    unfold unitF;rw [iN (by rw [isTk_out hge];simp),iN (by rw [isTk_out hge];simp),iN (by rw [isTk_out hge];simp),iN (by rw [isTk_out hge];simp),iN (by rw [isTk_out hge];simp),iN (by rw [isTk_out hge];simp),iN (by rw [isKd_out hge];simp),iN (by rw [isKd_out hge];simp)]
   rw [e];exact rpunit_end A c d l i w hge (isTk_out hge) (isTk_out hge) (isTk_out hge) (isTk_out hge) (isTk_out hge) (isTk_out hge) hi hP
set_option linter.unusedSimpArgs false
set_option maxRecDepth 100000
set_option maxHeartbeats 4000000
theorem tLRprG {o:Array Oper} {i:Nat} {x:Oper} (h:o.toList[i]?=some x):o[i]?=some x:=by simpa using h
theorem rpterm_any (l:List Tok) (d:Nat) (P:Par) (hd:d≤256) (hF:FnR l d 136 P) (hG:GdP l P) (hZ:NzP P):FnR l d 69 (termB l P):=by
 intro A c i w hi hP;obtain ⟨n,b6,w1,F,hlen,hlc,hcm,hs1,X6,HB,HP,HP1,HS,HI,HF,HN,HB6,HW1⟩:=rset A c l w hP (GQ w (termB l P i));rw [←HF.out,←HN.out];rw [←HN.out] at hi;clear hP
 have HI1:Hid (∀ (i:Nat) (W:World),i≤l.length→TokIn W A c l→Calls Tryz.prog 136 #[.slice A n c,.int .i64 (i:Nat),.int .i64 ((d:Nat):Int)] W (GQ W (P i))):=by
  intro i W h1 h2;have:=hF A c i W h1 h2;rw [←HN.out] at this;exact this
 obtain ⟨HI1P,HQHI1⟩:=exh_ P;rw [←HQHI1.out] at HI1;have HI1G:Hid (GdP l HI1P):=by show GdP _ _;rw [HQHI1.out];exact hG
 have HI1Z:Hid (NzP HI1P):=by show NzP _;rw [HQHI1.out];exact hZ
 clear hF hG hZ;go_enter Tryz.func69,Tryz.ntmps69;have hcf:=HI1.out (i) w1 (by first | omega | (rw [←HN.out];omega)) (HP.out.below HB.out);obtain ⟨r1,HRr1⟩:=exh_ (HI1P (i));rw [←HRr1.out] at hcf;have HC:=Hd hcf;have HGr1:Hid (∀ x k,r1=.ok x k→Gd l (i) x k):=fun x k h=>HI1G.out (i) x k (by rw [←HRr1.out];exact h);have HZr1:Hid (∀ k x,r1=.bad k x→x≠0):=fun k x h=>HI1Z.out (i) k x (by rw [←HRr1.out];exact h);clear hcf;go_wp2_with fail;rw [←HW1.out]
 try rw [←HB6.out]
 refine (HC.out).mono ?_;intro e w2 hq;have HRE1:Hid (F=GQ w (r1.then fun t j=>if whichOp l j [9]=0 then .ok t j else (HI1P (j+1)).then fun u k=>.ok (tmOf 9 [t,u]) k)):=by show _=_;rw [HF.out,HRr1.out,HQHI1.out];rfl
 clear HRr1
 rcases r1 with ⟨jb,xb⟩ | ⟨t1,j1⟩
 · obtain ⟨A',c',rfl,hV,hb2⟩:=gq_bad.1 hq;have hx:=HZr1.out _ _ rfl;have hxb:(xb != 0)=true:=by simpa using hx
   have HV:Hid (TmVS (fun q=>w.heap.size<q) w2 A' c' zeroTm):=hV.keep Kr (fun q _ h=>by have:=HB6.out;have:=lH X6.out;omega);replace X6:=kX hb2 X6;replace HB:=kB HB hb2;clear hb2 hV hq HC hx;obtain ⟨v0,v1,v2,v3,v4,v5,vzq⟩:=q6 X6.out;have vl:b6<w2.heap.size:=lH X6.out;go_wp2_with fail;clear v0 vzq v1 v2 v3 v4 v5 vl;refine bR (rcG (aK (res6 X6.out))) rfl ?_;rw [HRE1.out];exact gq_enda (r:=.bad jb xb) (A':=A') (c':=c') _ _ _ _ _ _ _ HB6.out HV.out HB.out
 obtain ⟨A1,c1,rfl,hV,hb2⟩:=gq_ok.1 hq;have HV1:Hid (TmVS (fun q=>w.heap.size<q) w2 A1 c1 t1):=hV.keep Kr (fun q _ h=>by have:=HB6.out;have:=lH X6.out;omega);have hgd_j1:=HGr1.out _ _ rfl;have hij_j1:=hgd_j1.ij;have hjl_j1:=hgd_j1.jl;rw [←HN.out] at hjl_j1;clear hgd_j1;obtain ⟨n1,HQn1⟩:=exh_ t1.kids.length;rw [←HQn1.out];replace X6:=kX hb2 X6;replace HB:=kB HB hb2;clear hb2 hV hq HC;obtain ⟨b7,hb7⟩:=ex_ w2.heap.size;obtain ⟨w3,hw3⟩:=ex_ (w2.alloc (.cells #[.int .i64 t1.op,.int .i64 t1.num,.string t1.name,.slice A1 n1 c1,.int .i64 (j1:Nat),.int .i64 0] 140));have Xb7:=nAl hw3 hb7;have NEb7:Hid (b7≠b6):=by show _≠_;have:=lH X6.out;omega
 have hal:=bAl hw3;have Qb7:=Hd hb7;have Qw3:=Hd hw3;clear hb7 hw3;replace X6:=kX hal X6;replace HV1:Hid (TmVS (fun q=>w.heap.size<q) w3 A1 c1 t1):=HV1.out.keep (Kb hal) (fun _ _ h=>h);replace HB:=kB HB hal;clear hal;have hI:=rpsign_any A c j1 l ⟨#[60,45,62]⟩ w3 (HP.out.below HB.out) (by omega);rw [←HN.out] at hI;have hw9:whichOp l j1 [9]=if isTk l j1 4 [60,45,62] then 9 else 0:=rfl
 by_cases hcl:isTk l j1 4 [60,45,62]=true
 · rw [show isTk l j1 4 (bs ⟨#[60,45,62]⟩)=true from hcl] at hI;have HC:=Hd hI;have hjl2:=isTk_lt hcl;have HREY:Hid (F=GQ w ((HI1P (j1+1)).then fun u k=>.ok (tmOf 9 [t1,u]) k)):=by show _=_;rw [HRE1.out];show GQ w (if whichOp l j1 [9]=0 then _ else _)=_;rw [hw9,iP hcl];rfl
   clear hI hcl hw9 HRE1;obtain ⟨u0,u1,u2,u3,u4,u5,uzq⟩:=q6 Xb7.out;have ul:b7<w3.heap.size:=lH Xb7.out;go_wp2_with fail;rw [←Qw3.out,←Qb7.out];(try go_wp2_with fail);refine (HC.out).mono ?_;rintro e w' ⟨rfl,hww⟩;rw [hww];clear hww HC;have hcf:=HI1.out (j1+1) w3 (by first | omega | (rw [←HN.out];omega)) (HP.out.below HB.out);rw [show ((j1+1:Nat):Int)=(j1:Int)+1 from by omega] at hcf;obtain ⟨r2,HRr2⟩:=exh_ (HI1P (j1+1));rw [←HRr2.out] at hcf;have HC:=Hd hcf;have HGr2:Hid (∀ x k,r2=.ok x k→Gd l (j1+1) x k):=fun x k h=>HI1G.out (j1+1) x k (by rw [←HRr2.out];exact h);have HZr2:Hid (∀ k x,r2=.bad k x→x≠0):=fun k x h=>HI1Z.out (j1+1) k x (by rw [←HRr2.out];exact h);clear hcf;go_wp2_with fail;refine (HC.out).mono ?_;intro e w4 hq;have HRE2:Hid (F=GQ w (r2.then fun u k=>.ok (tmOf 9 [t1,u]) k)):=by show _=_;rw [HREY.out,HRr2.out]
   clear HRr2 HREY u0 uzq u1 u2 u3 u4 u5 ul
   rcases r2 with ⟨jb,xb⟩ | ⟨t2,j2⟩
   · obtain ⟨A',c',rfl,hV,hb2⟩:=gq_bad.1 hq;have hx:=HZr2.out _ _ rfl;have hxb:(xb != 0)=true:=by simpa using hx
     have HV:Hid (TmVS (fun q=>w.heap.size<q) w4 A' c' zeroTm):=hV.keep Kr (fun q _ h=>by have:=HB6.out;have:=lH X6.out;omega);replace X6:=kX hb2 X6;replace Xb7:=kX hb2 Xb7;replace HV1:Hid (TmVS (fun q=>w.heap.size<q) w4 A1 c1 t1):=HV1.out.keep (Kb hb2) (fun _ _ h=>h);replace HB:=kB HB hb2;clear hb2 hV hq HC hx;obtain ⟨v0,v1,v2,v3,v4,v5,vzq⟩:=q6 X6.out;have vl:b6<w4.heap.size:=lH X6.out;go_wp2_with fail;clear v0 vzq v1 v2 v3 v4 v5 vl;refine bR (rcG (aK (res6 X6.out))) rfl ?_;rw [HRE2.out];exact gq_enda (r:=.bad jb xb) (A':=A') (c':=c') _ _ _ _ _ _ _ HB6.out HV.out HB.out
   obtain ⟨A2,c2,rfl,hV,hb2⟩:=gq_ok.1 hq;have HV2:Hid (TmVS (fun q=>w.heap.size<q) w4 A2 c2 t2):=hV.keep Kr (fun q _ h=>by have:=HB6.out;have:=lH X6.out;omega);have hgd_j2:=HGr2.out _ _ rfl;have hij_j2:=hgd_j2.ij;have hjl_j2:=hgd_j2.jl;rw [←HN.out] at hjl_j2;clear hgd_j2;obtain ⟨n2,HQn2⟩:=exh_ t2.kids.length;rw [←HQn2.out];replace X6:=kX hb2 X6;replace Xb7:=kX hb2 Xb7;replace HV1:Hid (TmVS (fun q=>w.heap.size<q) w4 A1 c1 t1):=HV1.out.keep (Kb hb2) (fun _ _ h=>h);replace HB:=kB HB hb2;clear hb2 hV hq HC;obtain ⟨b8,hb8⟩:=ex_ w4.heap.size;obtain ⟨w5,hw5⟩:=ex_ (w4.alloc (.cells #[.int .i64 t2.op,.int .i64 t2.num,.string t2.name,.slice A2 n2 c2,.int .i64 (j2:Nat),.int .i64 0] 140));have Xb8:=nAl hw5 hb8;have NEb8:Hid (b8≠b6):=by show _≠_;have:=lH X6.out;omega
   have hal:=bAl hw5;have Qb8:=Hd hb8;have Qw5:=Hd hw5;clear hb8 hw5;replace X6:=kX hal X6;replace Xb7:=kX hal Xb7;replace HV1:Hid (TmVS (fun q=>w.heap.size<q) w5 A1 c1 t1):=HV1.out.keep (Kb hal) (fun _ _ h=>h);replace HV2:Hid (TmVS (fun q=>w.heap.size<q) w5 A2 c2 t2):=HV2.out.keep (Kb hal) (fun _ _ h=>h);replace HB:=kB HB hal;clear hal;go_wp2_with fail;rw [←Qw5.out,←Qb8.out];have nb7:b7≠b6:=NEb7.out;have nb8:b8≠b6:=NEb8.out;obtain ⟨wd,hwd⟩:=ex_ w5.drew;have hbd:Below w5.heap.size w5 wd:=by rw [hwd];exact (Br _ _).drew
   replace X6:=kX hbd X6;replace Xb7:=kX hbd Xb7;replace Xb8:=kX hbd Xb8;replace HV1:Hid (TmVS (fun q=>w.heap.size<q) wd A1 c1 t1):=HV1.out.keep (Kb hbd) (fun _ _ h=>h);replace HV2:Hid (TmVS (fun q=>w.heap.size<q) wd A2 c2 t2):=HV2.out.keep (Kb hbd) (fun _ _ h=>h);replace HB:=kB HB hbd
   have HTW:Hid (Calls Tryz.prog 138 #[.int .i64 9,.agg #[.int .i64 t1.op,.int .i64 t1.num,.string t1.name,.slice A1 n1 c1],.agg #[.int .i64 t2.op,.int .i64 t2.num,.string t2.name,.slice A2 n2 c2]] wd fun e w'=>∃ g,e=.returned (.agg #[.int .i64 9,.int .i64 0,.string ⟨#[]⟩,.slice (some ⟨g,0,none⟩) 2 2])∧TmVS (fun q=>w.heap.size<q) w' (some ⟨g,0,none⟩) 2 (tmOf 9 [t1,t2])∧Below wd.heap.size wd w'):=by
    have h:=rptwo_any 9 t1 t2 A1 c1 A2 c2 (w.heap.size+1) wd (by have:=HB6.out;have:=lH X6.out;omega) HV1.out HV2.out;unfold Tm.val at h;rw [←HQn1.out,←HQn2.out] at h;exact h
   refine wp_region_held_drew (S:=fun w'=>w'.heap[b7]?=some (.cells #[.int .i64 t1.op,.int .i64 t1.num,.string t1.name,.slice A1 n1 c1,.int .i64 (j1:Nat),.int .i64 0] 140 (0,0))∧w'.heap[b8]?=some (.cells #[.int .i64 t2.op,.int .i64 t2.num,.string t2.name,.slice A2 n2 c2,.int .i64 (j2:Nat),.int .i64 0] 140 (0,0))) (by kernel_rfl) (by rw [←hwd];exact ⟨Xb7.out,Xb8.out⟩) (fun hHeld=>?_);rw [←hwd] at hHeld ⊢;clear hwd hbd;refine tkH 0 (v:=?_) (tLRprG rfl) (Or.inl ⟨by rfl,?hy⟩) (by assumption) ?_
   case hy=>
    intro w0 hSw;clear hSw;go_simp
    (first | done | with_reducible rfl)
   (try simp only [Act.put,sAr,sZe,sSu]);refine tkH 1 (v:=?_) (tLRprG rfl) (Or.inl ⟨by rfl,?hy⟩) (by assumption) ?_
   case hy=>
    intro w0 hSw;obtain ⟨e0,e1,e2,e3,e4,e5,-⟩:=q6 hSw.1;obtain ⟨h0,h1,h2,h3,h4,h5,-⟩:=q6 hSw.2;clear hSw;go_simp
    (first | done | with_reducible rfl)
   (try simp only [Act.put,sAr,sZe,sSu]);refine tkH 2 (v:=?_) (tLRprG rfl) (Or.inl ⟨by rfl,?hy⟩) (by assumption) ?_
   case hy=>
    intro w0 hSw;clear hSw;go_simp
    (first | done | with_reducible rfl)
   (try simp only [Act.put,sAr,sZe,sSu]);refine tkH 3 (v:=?_) (tLRprG rfl) (Or.inl ⟨by rfl,?hy⟩) (by assumption) ?_
   case hy=>
    intro w0 hSw;obtain ⟨e0,e1,e2,e3,e4,e5,-⟩:=q6 hSw.1;obtain ⟨h0,h1,h2,h3,h4,h5,-⟩:=q6 hSw.2;clear hSw;go_simp
    (first | done | with_reducible rfl)
   (try simp only [Act.put,sAr,sZe,sSu]);refine tkH 5 (v:=?_) (tLRprG rfl) (Or.inl ⟨by rfl,?hy⟩) (by assumption) ?_
   case hy=>
    intro w0 hSw;clear hSw;go_simp
    (first | done | with_reducible rfl)
   (try simp only [Act.put,sAr,sZe,sSu]);refine tkH 6 (v:=?_) (tLRprG rfl) (Or.inl ⟨by rfl,?hy⟩) (by assumption) ?_
   case hy=>
    intro w0 hSw;obtain ⟨e0,e1,e2,e3,e4,e5,-⟩:=q6 hSw.1;obtain ⟨h0,h1,h2,h3,h4,h5,-⟩:=q6 hSw.2;clear hSw;go_simp
    (first | done | with_reducible rfl)
   (try simp only [Act.put,sAr,sZe,sSu]);refine Rd (rs:=[4]) (by kernel_rfl) (by simp) ?_;refine Rc (tLRprG rfl) (fun K hK=>?_) Rn;go_simp;(with_reducible refine (HTW.out).mono ?_);rintro e w8 ⟨g,rfl,hVT,hbT⟩;have HVT:=Hd hVT;refine hK.out _ _ ⟨(hbT.block b7 (lH Xb7.out)).trans Xb7.out,(hbT.block b8 (lH Xb8.out)).trans Xb8.out⟩ (fun hHeld=>?_);clear hK K;(try simp only [Act.put,sAr,sZe,sSu]);replace X6:=kX hbT X6;replace HB:=kB HB hbT;clear hbT hVT HTW;refine tkH 7 (v:=?_) (tLRprG rfl) (Or.inl ⟨by rfl,?hy⟩) (by assumption) ?_
   case hy=>
    intro w0 hSw;clear hSw;go_simp
    (first | done | with_reducible rfl)
   (try simp only [Act.put,sAr,sZe,sSu]);refine Rd (rs:=[8]) (by kernel_rfl) (by simp) ?_;refine Rc (tLRprG rfl) (fun K hK=>?_) Rn;obtain ⟨v0,v1,v2,v3,v4,v5,vzq⟩:=q6 X6.out;have vl:b6<w8.heap.size:=lH X6.out;go_simp;clear v0 vzq v1 v2 v3 v4 v5 vl;refine hK.out _ _ ⟨(sets6_far nb7).trans hHeld.1,(sets6_far nb8).trans hHeld.2⟩ (fun hHeld=>?_);clear hK K;(try simp only [Act.put,sAr,sZe,sSu]);refine wpAnyH_done (by kernel_rfl) ?_ _;clear hHeld;go_wp2_with fail;refine bR (rcG (res6 X6.out)) rfl ?_;rw [HRE2.out];exact gq_end (r:=.ok (tmOf 9 [t1,t2]) j2) (A':=some ⟨g,0,none⟩) (c':=2) _ _ _ _ _ _ HB6.out HVT.out HB.out
 · have hcf:isTk l j1 4 [60,45,62]=false:=by simpa using hcl
   rw [show isTk l j1 4 (bs ⟨#[60,45,62]⟩)=false from hcf] at hI;have HC:=Hd hI;have HRE:Hid (F=GQ w (.ok t1 j1)):=by show _=_;rw [HRE1.out];show GQ w (if whichOp l j1 [9]=0 then _ else _)=_;rw [hw9,iN hcl];rfl
   clear hI hcl hcf hw9 HRE1;obtain ⟨u0,u1,u2,u3,u4,u5,uzq⟩:=q6 Xb7.out;have ul:b7<w3.heap.size:=lH Xb7.out;obtain ⟨v0,v1,v2,v3,v4,v5,vzq⟩:=q6 X6.out;have vl:b6<w3.heap.size:=lH X6.out;go_wp2_with fail;rw [←Qw3.out,←Qb7.out];(try go_wp2_with fail);refine (HC.out).mono ?_;rintro e w' ⟨rfl,hww⟩;rw [hww];clear hww HC;go_wp2_with fail;clear u0 uzq u1 u2 u3 u4 u5 ul v0 vzq v1 v2 v3 v4 v5 vl;refine bR (rcG (res6 X6.out)) rfl ?_;rw [HRE.out,HQn1.out];exact gq_end (r:=.ok t1 j1) (A':=A1) (c':=c1) _ _ _ _ _ _ HB6.out HV1.out HB.out
end Go.Proofs.YtnbphgeepnknlaaGreatDoor
