/- Walks and plain words: RprH RprI. -/
import Derived.Test.YtnbphgeepnknlaaGreatDoorURprE
namespace Go.Proofs.YtnbphgeepnknlaaGreatDoor
open Go.RowKit
set_option linter.unusedVariables false
set_option linter.unusedSimpArgs false
set_option maxRecDepth 100000
set_option maxHeartbeats 4000000
theorem tLRprH {o:Array Oper} {i:Nat} {x:Oper} (h:o.toList[i]?=some x):o[i]?=some x:=by simpa using h
theorem rpimp_any (l:List Tok) (d:Nat) (P PI:Par) (hd:d≤256) (hF:FnRB l d 175 false P) (hG:GdP l P) (hZ:NzP P) (hF2:d<256→FnR l (d+1) 136 PI) (hG2:GdP l PI) (hZ2:NzP PI):FnR l d 136 (impB l (if d=256 then none else some PI) P):=by
 intro A c i w hi hP;obtain ⟨n,b6,w1,F,hlen,hlc,hcm,hs1,X6,HB,HP,HP1,HS,HI,HF,HN,HB6,HW1⟩:=rset A c l w hP (GQ w (impB l (if d=256 then none else some PI) P i));rw [←HF.out,←HN.out];rw [←HN.out] at hi;clear hP
 have HI1:Hid (∀ (i:Nat) (W:World),i≤l.length→TokIn W A c l→Calls Tryz.prog 175 #[.slice A n c,.int .i64 (i:Nat),.int .i64 ((d:Nat):Int),.bool false] W (GQ W (P i))):=by
  intro i W h1 h2;have:=hF A c i W h1 h2;rw [←HN.out] at this;exact this
 obtain ⟨HI1P,HQHI1⟩:=exh_ P;rw [←HQHI1.out] at HI1;have HI1G:Hid (GdP l HI1P):=by show GdP _ _;rw [HQHI1.out];exact hG
 have HI1Z:Hid (NzP HI1P):=by show NzP _;rw [HQHI1.out];exact hZ
 have HI2F:Hid (d<256→∀ (i:Nat) (W:World),i≤l.length→TokIn W A c l→Calls Tryz.prog 136 #[.slice A n c,.int .i64 (i:Nat),.int .i64 ((d+1:Nat):Int)] W (GQ W (PI i))):=by
  intro hdd i W h1 h2;have:=hF2 hdd A c i W h1 h2;rw [←HN.out] at this;exact this
 have HI2G:=Hd hG2;have HI2Z:=Hd hZ2;clear hF hG hZ hF2 hG2 hZ2;go_enter Tryz.func136,Tryz.ntmps136;have hcf:=HI1.out (i) w1 (by first | omega | (rw [←HN.out];omega)) (HP.out.below HB.out);obtain ⟨r1,HRr1⟩:=exh_ (HI1P (i));rw [←HRr1.out] at hcf;have HC:=Hd hcf;have HGr1:Hid (∀ x k,r1=.ok x k→Gd l (i) x k):=fun x k h=>HI1G.out (i) x k (by rw [←HRr1.out];exact h);have HZr1:Hid (∀ k x,r1=.bad k x→x≠0):=fun k x h=>HI1Z.out (i) k x (by rw [←HRr1.out];exact h);clear hcf;go_wp2_with fail;rw [←HW1.out]
 try rw [←HB6.out]
 refine (HC.out).mono ?_;intro e w2 hq;have HRE1:Hid (F=GQ w (r1.then fun t j=>if whichOp l j [8]=0 then .ok t j else (inner (if d=256 then none else some PI) j).then fun u k=>.ok (tmOf 8 [t,u]) k)):=by show _=_;rw [HF.out,HRr1.out,HQHI1.out];rfl
 clear HRr1
 rcases r1 with ⟨jb,xb⟩ | ⟨t1,j1⟩
 · obtain ⟨A',c',rfl,hV,hb2⟩:=gq_bad.1 hq;have hx:=HZr1.out _ _ rfl;have hxb:(xb != 0)=true:=by simpa using hx
   have HV:Hid (TmVS (fun q=>w.heap.size<q) w2 A' c' zeroTm):=hV.keep Kr (fun q _ h=>by have:=HB6.out;have:=lH X6.out;omega);replace X6:=kX hb2 X6;replace HB:=kB HB hb2;clear hb2 hV hq HC hx;obtain ⟨v0,v1,v2,v3,v4,v5,vzq⟩:=q6 X6.out;have vl:b6<w2.heap.size:=lH X6.out;go_wp2_with fail;clear v0 vzq v1 v2 v3 v4 v5 vl;refine bR (rcG (aK (res6 X6.out))) rfl ?_;rw [HRE1.out];exact gq_enda (r:=.bad jb xb) (A':=A') (c':=c') _ _ _ _ _ _ _ HB6.out HV.out HB.out
 obtain ⟨A1,c1,rfl,hV,hb2⟩:=gq_ok.1 hq;have HV1:Hid (TmVS (fun q=>w.heap.size<q) w2 A1 c1 t1):=hV.keep Kr (fun q _ h=>by have:=HB6.out;have:=lH X6.out;omega);have hgd_j1:=HGr1.out _ _ rfl;have hij_j1:=hgd_j1.ij;have hjl_j1:=hgd_j1.jl;rw [←HN.out] at hjl_j1;clear hgd_j1;obtain ⟨n1,HQn1⟩:=exh_ t1.kids.length;rw [←HQn1.out];replace X6:=kX hb2 X6;replace HB:=kB HB hb2;clear hb2 hV hq HC;obtain ⟨b7,hb7⟩:=ex_ w2.heap.size;obtain ⟨w3,hw3⟩:=ex_ (w2.alloc (.cells #[.int .i64 t1.op,.int .i64 t1.num,.string t1.name,.slice A1 n1 c1,.int .i64 (j1:Nat),.int .i64 0] 140));have Xb7:=nAl hw3 hb7;have NEb7:Hid (b7≠b6):=by show _≠_;have:=lH X6.out;omega
 have hal:=bAl hw3;have Qb7:=Hd hb7;have Qw3:=Hd hw3;clear hb7 hw3;replace X6:=kX hal X6;replace HV1:Hid (TmVS (fun q=>w.heap.size<q) w3 A1 c1 t1):=HV1.out.keep (Kb hal) (fun _ _ h=>h);replace HB:=kB HB hal;clear hal;have hI:=rpsign_any A c j1 l ⟨#[45,62]⟩ w3 (HP.out.below HB.out) (by omega);rw [←HN.out] at hI;have hw9:whichOp l j1 [8]=if isTk l j1 4 [45,62] then 8 else 0:=rfl
 by_cases hcl:isTk l j1 4 [45,62]=true
 · rw [show isTk l j1 4 (bs ⟨#[45,62]⟩)=true from hcl] at hI;have HC:=Hd hI;have hjl2:=isTk_lt hcl;have HREY:Hid (F=GQ w ((inner (if d=256 then none else some PI) j1).then fun u k=>.ok (tmOf 8 [t1,u]) k)):=by show _=_;rw [HRE1.out];show GQ w (if whichOp l j1 [8]=0 then _ else _)=_;rw [hw9,iP hcl];rfl
   clear hI hcl hw9 HRE1
   by_cases h256:d=256
   · have hdb:((d:Int) == 256)=true:=by simp;omega
     have HRE:Hid (F=GQ w (.bad j1 17)):=by show _=_;rw [HREY.out,iP h256];rfl
     clear h256 HREY;obtain ⟨u0,u1,u2,u3,u4,u5,uzq⟩:=q6 Xb7.out;have ul:b7<w3.heap.size:=lH Xb7.out;go_wp2_with fail;rw [←Qw3.out,←Qb7.out];(try go_wp2_with fail);refine (HC.out).mono ?_;rintro e w' ⟨rfl,hww⟩;rw [hww];clear hww HC;have HC:=Hd (rpfail_any j1 17 w3);go_wp2_with fail;refine (HC.out).mono ?_;intro e w9 hq;obtain ⟨AF,cF,rfl,hVF,hbF⟩:=gq_bad.1 hq;clear u0 uzq u1 u2 u3 u4 u5 ul;have HVF:Hid (TmVS (fun q=>w.heap.size<q) w9 AF cF zeroTm):=hVF.keep Kr (fun q _ h=>by have:=HB6.out;have:=lH X6.out;omega);replace X6:=kX hbF X6;replace HB:=kB HB hbF;clear hq hVF hbF HC;obtain ⟨v0,v1,v2,v3,v4,v5,vzq⟩:=q6 X6.out;have vl:b6<w9.heap.size:=lH X6.out;go_wp2_with fail;clear v0 vzq v1 v2 v3 v4 v5 vl;refine bR (rcG (res6 X6.out)) rfl ?_;rw [HRE.out];exact gq_end (r:=.bad j1 17) (A':=AF) (c':=cF) _ _ _ _ _ _ HB6.out HVF.out HB.out
   · have hdb:((d:Int) == 256)=false:=by simp;omega
     have hd2:d<256:=by omega
     have HREZ:Hid (F=GQ w ((PI (j1+1)).then fun u k=>.ok (tmOf 8 [t1,u]) k)):=by show _=_;rw [HREY.out,iN h256];rfl
     have HI2:Hid (∀ (i:Nat) (W:World),i≤l.length→TokIn W A c l→Calls Tryz.prog 136 #[.slice A n c,.int .i64 (i:Nat),.int .i64 ((d+1:Nat):Int)] W (GQ W (PI i))):=HI2F.out hd2;obtain ⟨HI2P,hq2⟩:=ex_ PI;rw [←hq2] at HI2 HREZ HI2G HI2Z;clear h256 HREY hq2;obtain ⟨u0,u1,u2,u3,u4,u5,uzq⟩:=q6 Xb7.out;have ul:b7<w3.heap.size:=lH Xb7.out;go_wp2_with fail;rw [←Qw3.out,←Qb7.out];(try go_wp2_with fail);refine (HC.out).mono ?_;rintro e w' ⟨rfl,hww⟩;rw [hww];clear hww HC;have hcf:=HI2.out (j1+1) w3 (by first | omega | (rw [←HN.out];omega)) (HP.out.below HB.out);rw [show ((j1+1:Nat):Int)=(j1:Int)+1 from by omega] at hcf;rw [show ((d+1:Nat):Int)=(d:Int)+1 from by omega] at hcf;obtain ⟨r2,HRr2⟩:=exh_ (HI2P (j1+1));rw [←HRr2.out] at hcf;have HC:=Hd hcf;have HGr2:Hid (∀ x k,r2=.ok x k→Gd l (j1+1) x k):=fun x k h=>HI2G.out (j1+1) x k (by rw [←HRr2.out];exact h);have HZr2:Hid (∀ k x,r2=.bad k x→x≠0):=fun k x h=>HI2Z.out (j1+1) k x (by rw [←HRr2.out];exact h);clear hcf;go_wp2_with fail;refine (HC.out).mono ?_;intro e w4 hq;have HRE2:Hid (F=GQ w (r2.then fun u k=>.ok (tmOf 8 [t1,u]) k)):=by show _=_;rw [HREZ.out,HRr2.out]
     clear HRr2 HREZ u0 uzq u1 u2 u3 u4 u5 ul
     rcases r2 with ⟨jb,xb⟩ | ⟨t2,j2⟩
     · obtain ⟨A',c',rfl,hV,hb2⟩:=gq_bad.1 hq;have hx:=HZr2.out _ _ rfl;have hxb:(xb != 0)=true:=by simpa using hx
       have HV:Hid (TmVS (fun q=>w.heap.size<q) w4 A' c' zeroTm):=hV.keep Kr (fun q _ h=>by have:=HB6.out;have:=lH X6.out;omega);replace X6:=kX hb2 X6;replace Xb7:=kX hb2 Xb7;replace HV1:Hid (TmVS (fun q=>w.heap.size<q) w4 A1 c1 t1):=HV1.out.keep (Kb hb2) (fun _ _ h=>h);replace HB:=kB HB hb2;clear hb2 hV hq HC hx;obtain ⟨v0,v1,v2,v3,v4,v5,vzq⟩:=q6 X6.out;have vl:b6<w4.heap.size:=lH X6.out;go_wp2_with fail;clear v0 vzq v1 v2 v3 v4 v5 vl;refine bR (rcG (aK (res6 X6.out))) rfl ?_;rw [HRE2.out];exact gq_enda (r:=.bad jb xb) (A':=A') (c':=c') _ _ _ _ _ _ _ HB6.out HV.out HB.out
     obtain ⟨A2,c2,rfl,hV,hb2⟩:=gq_ok.1 hq;have HV2:Hid (TmVS (fun q=>w.heap.size<q) w4 A2 c2 t2):=hV.keep Kr (fun q _ h=>by have:=HB6.out;have:=lH X6.out;omega);have hgd_j2:=HGr2.out _ _ rfl;have hij_j2:=hgd_j2.ij;have hjl_j2:=hgd_j2.jl;rw [←HN.out] at hjl_j2;clear hgd_j2;obtain ⟨n2,HQn2⟩:=exh_ t2.kids.length;rw [←HQn2.out];replace X6:=kX hb2 X6;replace Xb7:=kX hb2 Xb7;replace HV1:Hid (TmVS (fun q=>w.heap.size<q) w4 A1 c1 t1):=HV1.out.keep (Kb hb2) (fun _ _ h=>h);replace HB:=kB HB hb2;clear hb2 hV hq HC;obtain ⟨b8,hb8⟩:=ex_ w4.heap.size;obtain ⟨w5,hw5⟩:=ex_ (w4.alloc (.cells #[.int .i64 t2.op,.int .i64 t2.num,.string t2.name,.slice A2 n2 c2,.int .i64 (j2:Nat),.int .i64 0] 140));have Xb8:=nAl hw5 hb8;have NEb8:Hid (b8≠b6):=by show _≠_;have:=lH X6.out;omega
     have hal:=bAl hw5;have Qb8:=Hd hb8;have Qw5:=Hd hw5;clear hb8 hw5;replace X6:=kX hal X6;replace Xb7:=kX hal Xb7;replace HV1:Hid (TmVS (fun q=>w.heap.size<q) w5 A1 c1 t1):=HV1.out.keep (Kb hal) (fun _ _ h=>h);replace HV2:Hid (TmVS (fun q=>w.heap.size<q) w5 A2 c2 t2):=HV2.out.keep (Kb hal) (fun _ _ h=>h);replace HB:=kB HB hal;clear hal;go_wp2_with fail;rw [←Qw5.out,←Qb8.out];have nb7:b7≠b6:=NEb7.out;have nb8:b8≠b6:=NEb8.out;obtain ⟨wd,hwd⟩:=ex_ w5.drew;have hbd:Below w5.heap.size w5 wd:=by rw [hwd];exact (Br _ _).drew
     replace X6:=kX hbd X6;replace Xb7:=kX hbd Xb7;replace Xb8:=kX hbd Xb8;replace HV1:Hid (TmVS (fun q=>w.heap.size<q) wd A1 c1 t1):=HV1.out.keep (Kb hbd) (fun _ _ h=>h);replace HV2:Hid (TmVS (fun q=>w.heap.size<q) wd A2 c2 t2):=HV2.out.keep (Kb hbd) (fun _ _ h=>h);replace HB:=kB HB hbd
     have HTW:Hid (Calls Tryz.prog 138 #[.int .i64 8,.agg #[.int .i64 t1.op,.int .i64 t1.num,.string t1.name,.slice A1 n1 c1],.agg #[.int .i64 t2.op,.int .i64 t2.num,.string t2.name,.slice A2 n2 c2]] wd fun e w'=>∃ g,e=.returned (.agg #[.int .i64 8,.int .i64 0,.string ⟨#[]⟩,.slice (some ⟨g,0,none⟩) 2 2])∧TmVS (fun q=>w.heap.size<q) w' (some ⟨g,0,none⟩) 2 (tmOf 8 [t1,t2])∧Below wd.heap.size wd w'):=by
      have h:=rptwo_any 8 t1 t2 A1 c1 A2 c2 (w.heap.size+1) wd (by have:=HB6.out;have:=lH X6.out;omega) HV1.out HV2.out;unfold Tm.val at h;rw [←HQn1.out,←HQn2.out] at h;exact h
     refine wp_region_held_drew (S:=fun w'=>w'.heap[b7]?=some (.cells #[.int .i64 t1.op,.int .i64 t1.num,.string t1.name,.slice A1 n1 c1,.int .i64 (j1:Nat),.int .i64 0] 140 (0,0))∧w'.heap[b8]?=some (.cells #[.int .i64 t2.op,.int .i64 t2.num,.string t2.name,.slice A2 n2 c2,.int .i64 (j2:Nat),.int .i64 0] 140 (0,0))) (by kernel_rfl) (by rw [←hwd];exact ⟨Xb7.out,Xb8.out⟩) (fun hHeld=>?_);rw [←hwd] at hHeld ⊢;clear hwd hbd;refine tkH 0 (v:=?_) (tLRprH rfl) (Or.inl ⟨by rfl,?hy⟩) (by assumption) ?_
     case hy=>
      intro w0 hSw;clear hSw;go_simp
      (first | done | with_reducible rfl)
     (try simp only [Act.put,sAr,sZe,sSu]);refine tkH 1 (v:=?_) (tLRprH rfl) (Or.inl ⟨by rfl,?hy⟩) (by assumption) ?_
     case hy=>
      intro w0 hSw;obtain ⟨e0,e1,e2,e3,e4,e5,-⟩:=q6 hSw.1;obtain ⟨h0,h1,h2,h3,h4,h5,-⟩:=q6 hSw.2;clear hSw;go_simp
      (first | done | with_reducible rfl)
     (try simp only [Act.put,sAr,sZe,sSu]);refine tkH 2 (v:=?_) (tLRprH rfl) (Or.inl ⟨by rfl,?hy⟩) (by assumption) ?_
     case hy=>
      intro w0 hSw;clear hSw;go_simp
      (first | done | with_reducible rfl)
     (try simp only [Act.put,sAr,sZe,sSu]);refine tkH 3 (v:=?_) (tLRprH rfl) (Or.inl ⟨by rfl,?hy⟩) (by assumption) ?_
     case hy=>
      intro w0 hSw;obtain ⟨e0,e1,e2,e3,e4,e5,-⟩:=q6 hSw.1;obtain ⟨h0,h1,h2,h3,h4,h5,-⟩:=q6 hSw.2;clear hSw;go_simp
      (first | done | with_reducible rfl)
     (try simp only [Act.put,sAr,sZe,sSu]);refine tkH 5 (v:=?_) (tLRprH rfl) (Or.inl ⟨by rfl,?hy⟩) (by assumption) ?_
     case hy=>
      intro w0 hSw;clear hSw;go_simp
      (first | done | with_reducible rfl)
     (try simp only [Act.put,sAr,sZe,sSu]);refine tkH 6 (v:=?_) (tLRprH rfl) (Or.inl ⟨by rfl,?hy⟩) (by assumption) ?_
     case hy=>
      intro w0 hSw;obtain ⟨e0,e1,e2,e3,e4,e5,-⟩:=q6 hSw.1;obtain ⟨h0,h1,h2,h3,h4,h5,-⟩:=q6 hSw.2;clear hSw;go_simp
      (first | done | with_reducible rfl)
     (try simp only [Act.put,sAr,sZe,sSu]);refine Rd (rs:=[4]) (by kernel_rfl) (by simp) ?_;refine Rc (tLRprH rfl) (fun K hK=>?_) Rn;go_simp;(with_reducible refine (HTW.out).mono ?_);rintro e w8 ⟨g,rfl,hVT,hbT⟩;have HVT:=Hd hVT;refine hK.out _ _ ⟨(hbT.block b7 (lH Xb7.out)).trans Xb7.out,(hbT.block b8 (lH Xb8.out)).trans Xb8.out⟩ (fun hHeld=>?_);clear hK K;(try simp only [Act.put,sAr,sZe,sSu]);replace X6:=kX hbT X6;replace HB:=kB HB hbT;clear hbT hVT HTW;refine tkH 7 (v:=?_) (tLRprH rfl) (Or.inl ⟨by rfl,?hy⟩) (by assumption) ?_
     case hy=>
      intro w0 hSw;clear hSw;go_simp
      (first | done | with_reducible rfl)
     (try simp only [Act.put,sAr,sZe,sSu]);refine Rd (rs:=[8]) (by kernel_rfl) (by simp) ?_;refine Rc (tLRprH rfl) (fun K hK=>?_) Rn;obtain ⟨v0,v1,v2,v3,v4,v5,vzq⟩:=q6 X6.out;have vl:b6<w8.heap.size:=lH X6.out;go_simp;clear v0 vzq v1 v2 v3 v4 v5 vl;refine hK.out _ _ ⟨(sets6_far nb7).trans hHeld.1,(sets6_far nb8).trans hHeld.2⟩ (fun hHeld=>?_);clear hK K;(try simp only [Act.put,sAr,sZe,sSu]);refine wpAnyH_done (by kernel_rfl) ?_ _;clear hHeld;go_wp2_with fail;refine bR (rcG (res6 X6.out)) rfl ?_;rw [HRE2.out];exact gq_end (r:=.ok (tmOf 8 [t1,t2]) j2) (A':=some ⟨g,0,none⟩) (c':=2) _ _ _ _ _ _ HB6.out HVT.out HB.out
 · have hcf:isTk l j1 4 [45,62]=false:=by simpa using hcl
   rw [show isTk l j1 4 (bs ⟨#[45,62]⟩)=false from hcf] at hI;have HC:=Hd hI;have HRE:Hid (F=GQ w (.ok t1 j1)):=by show _=_;rw [HRE1.out];show GQ w (if whichOp l j1 [8]=0 then _ else _)=_;rw [hw9,iN hcl];rfl
   clear hI hcl hcf hw9 HRE1;obtain ⟨u0,u1,u2,u3,u4,u5,uzq⟩:=q6 Xb7.out;have ul:b7<w3.heap.size:=lH Xb7.out;obtain ⟨v0,v1,v2,v3,v4,v5,vzq⟩:=q6 X6.out;have vl:b6<w3.heap.size:=lH X6.out;go_wp2_with fail;rw [←Qw3.out,←Qb7.out];(try go_wp2_with fail);refine (HC.out).mono ?_;rintro e w' ⟨rfl,hww⟩;rw [hww];clear hww HC;go_wp2_with fail;clear u0 uzq u1 u2 u3 u4 u5 ul v0 vzq v1 v2 v3 v4 v5 vl;refine bR (rcG (res6 X6.out)) rfl ?_;rw [HRE.out,HQn1.out];exact gq_end (r:=.ok t1 j1) (A':=A1) (c':=c1) _ _ _ _ _ _ HB6.out HV1.out HB.out
theorem rpcmp_any (l:List Tok) (d:Nat) (P:Par) (hd:d≤256) (hF:FnRB l d 226 false P) (hG:GdP l P) (hZ:NzP P):FnR l d 217 (fun i=>(P i).then fun t j=>if whichOp l j [10,11,12,13]=0 then .ok t j else (P (j+1)).then fun u k=>.ok (tmOf (whichOp l j [10,11,12,13]) [t,u]) k):=by
 intro A c i w hi hP;show Calls _ _ _ _ (GQ w ((P i).then fun t j=>if whichOp l j [10,11,12,13]=0 then .ok t j else (P (j+1)).then fun u k=>.ok (tmOf (whichOp l j [10,11,12,13]) [t,u]) k));obtain ⟨n,b6,w1,F,hlen,hlc,hcm,hs1,X6,HB,HP,HP1,HS,HI,HF,HN,HB6,HW1⟩:=rset A c l w hP (GQ w ((P i).then fun t j=>if whichOp l j [10,11,12,13]=0 then .ok t j else (P (j+1)).then fun u k=>.ok (tmOf (whichOp l j [10,11,12,13]) [t,u]) k));rw [←HF.out,←HN.out];rw [←HN.out] at hi;clear hP
 have HI1:Hid (∀ (i:Nat) (W:World),i≤l.length→TokIn W A c l→Calls Tryz.prog 226 #[.slice A n c,.int .i64 (i:Nat),.int .i64 ((d:Nat):Int),.bool false] W (GQ W (P i))):=by
  intro i W h1 h2;have:=hF A c i W h1 h2;rw [←HN.out] at this;exact this
 obtain ⟨HI1P,HQHI1⟩:=exh_ P;rw [←HQHI1.out] at HI1;have HI1G:Hid (GdP l HI1P):=by show GdP _ _;rw [HQHI1.out];exact hG
 have HI1Z:Hid (NzP HI1P):=by show NzP _;rw [HQHI1.out];exact hZ
 clear hF hG hZ;go_enter Tryz.func217,Tryz.ntmps217;have hcf:=HI1.out (i) w1 (by first | omega | (rw [←HN.out];omega)) (HP.out.below HB.out);obtain ⟨r1,HRr1⟩:=exh_ (HI1P (i));rw [←HRr1.out] at hcf;have HC:=Hd hcf;have HGr1:Hid (∀ x k,r1=.ok x k→Gd l (i) x k):=fun x k h=>HI1G.out (i) x k (by rw [←HRr1.out];exact h);have HZr1:Hid (∀ k x,r1=.bad k x→x≠0):=fun k x h=>HI1Z.out (i) k x (by rw [←HRr1.out];exact h);clear hcf;go_wp2_with fail;rw [←HW1.out]
 try rw [←HB6.out]
 refine (HC.out).mono ?_;intro e w2 hq;have HRE1:Hid (F=GQ w (r1.then fun t j=>if whichOp l j [10,11,12,13]=0 then .ok t j else (HI1P (j+1)).then fun u k=>.ok (tmOf (whichOp l j [10,11,12,13]) [t,u]) k)):=by show _=_;rw [HF.out,HRr1.out,HQHI1.out]
 clear HRr1
 rcases r1 with ⟨jb,xb⟩ | ⟨t1,j1⟩
 · obtain ⟨A',c',rfl,hV,hb2⟩:=gq_bad.1 hq;have hx:=HZr1.out _ _ rfl;have hxb:(xb != 0)=true:=by simpa using hx
   have HV:Hid (TmVS (fun q=>w.heap.size<q) w2 A' c' zeroTm):=hV.keep Kr (fun q _ h=>by have:=HB6.out;have:=lH X6.out;omega);replace X6:=kX hb2 X6;replace HB:=kB HB hb2;clear hb2 hV hq HC hx;obtain ⟨v0,v1,v2,v3,v4,v5,vzq⟩:=q6 X6.out;have vl:b6<w2.heap.size:=lH X6.out;go_wp2_with fail;clear v0 vzq v1 v2 v3 v4 v5 vl;refine bR (rcG (aK (res6 X6.out))) rfl ?_;rw [HRE1.out];exact gq_enda (r:=.bad jb xb) (A':=A') (c':=c') _ _ _ _ _ _ _ HB6.out HV.out HB.out
 obtain ⟨A1,c1,rfl,hV,hb2⟩:=gq_ok.1 hq;have HV1:Hid (TmVS (fun q=>w.heap.size<q) w2 A1 c1 t1):=hV.keep Kr (fun q _ h=>by have:=HB6.out;have:=lH X6.out;omega);have hgd_j1:=HGr1.out _ _ rfl;have hij_j1:=hgd_j1.ij;have hjl_j1:=hgd_j1.jl;rw [←HN.out] at hjl_j1;clear hgd_j1;obtain ⟨n1,HQn1⟩:=exh_ t1.kids.length;rw [←HQn1.out];replace X6:=kX hb2 X6;replace HB:=kB HB hb2;clear hb2 hV hq HC;obtain ⟨b7,hb7⟩:=ex_ w2.heap.size;obtain ⟨w3,hw3⟩:=ex_ (w2.alloc (.cells #[.int .i64 t1.op,.int .i64 t1.num,.string t1.name,.slice A1 n1 c1,.int .i64 (j1:Nat),.int .i64 0] 140));have Xb7:=nAl hw3 hb7;have NEb7:Hid (b7≠b6):=by show _≠_;have:=lH X6.out;omega
 have hal:=bAl hw3;have Qb7:=Hd hb7;have Qw3:=Hd hw3;clear hb7 hw3;replace X6:=kX hal X6;replace HV1:Hid (TmVS (fun q=>w.heap.size<q) w3 A1 c1 t1):=HV1.out.keep (Kb hal) (fun _ _ h=>h);replace HB:=kB HB hal;clear hal;obtain ⟨gtq,hgtq⟩:=ex_ w3.heap.size;obtain ⟨sq,hsq⟩:=ex_ (w3.alloc (.cells #[.string ⟨#[61]⟩,.string ⟨#[33,61]⟩,.string ⟨#[60]⟩,.string ⟨#[60,61]⟩] 9));have hbsq:=bAl hsq;have hxsq:sq.heap[gtq]?=some (.cells #[.string ⟨#[61]⟩,.string ⟨#[33,61]⟩,.string ⟨#[60]⟩,.string ⟨#[60,61]⟩] 9 (0,0)):=by rw [hsq,hgtq];exact hA_ w3 _
 obtain ⟨goq,hgoq⟩:=ex_ sq.heap.size;obtain ⟨tq,htq⟩:=ex_ (sq.alloc (.cells #[.int .i64 10,.int .i64 11,.int .i64 12,.int .i64 13] 3));have hbtq:=bAl htq;have hbel2:Below w3.heap.size w3 tq:=hbsq.trans (hbtq.mono hbsq.size);have hO:OpsAt tq goq [10,11,12,13]:=by rw [htq,hgoq];exact ops_new sq [10,11,12,13]
 have hxtq:tq.heap[gtq]?=some (.cells #[.string ⟨#[61]⟩,.string ⟨#[33,61]⟩,.string ⟨#[60]⟩,.string ⟨#[60,61]⟩] 9 (0,0)):=(hbtq.block gtq (lH hxsq)).trans hxsq
 have hwh:=rpwhich_any A c j1 l [10,11,12,13] gtq goq 4 4 tq (HP.out.below (HB.out.trans (hbel2.mono HB.out.size))) (by omega) (by decide) (fun k op hop=>by
  rw [cR tq gtq k _ _ (0,0) hxtq];have hk:=(gE.1 hop).1;simp only [List.length_cons,List.length_nil] at hk;have hk2:k=0∨k=1∨k=2∨k=3:=by omega
  rcases hk2 with rfl | rfl | rfl | rfl
  all_goals
   simp at hop;subst hop
   rfl) hO (by decide)
 rw [←HN.out] at hwh;have HC:=Hd hwh;have hw3s:w3.heap.size=b7+1:=by rw [Qw3.out,Qb7.out];simp
 have Qgtq:Hid (gtq=b7+1):=by show _=_;rw [hgtq,hw3s]
 have Qgoq:Hid (goq=b7+1+1):=by show _=_;rw [hgoq,hsq];simp [hw3s]
 have Qsq:=Hd hsq;have Qtq:=Hd htq;obtain ⟨u0,u1,u2,u3,u4,u5,uzq⟩:=q6 Xb7.out;have ul:b7<w3.heap.size:=lH Xb7.out;clear hwh hw3s hgtq hgoq hsq htq hO hxsq hxtq hbsq hbtq;go_wp2_with fail;rw [←Qw3.out,←Qb7.out,←Qsq.out,←Qtq.out,←Qgoq.out,←Qgtq.out];clear u0 uzq u1 u2 u3 u4 u5 ul;replace X6:=kX hbel2 X6;replace Xb7:=kX hbel2 Xb7;replace HV1:Hid (TmVS (fun q=>w.heap.size<q) tq A1 c1 t1):=HV1.out.keep (Kb hbel2) (fun _ _ h=>h);replace HB:=kB HB hbel2;clear hbel2;refine (HC.out).mono ?_;rintro e w' ⟨rfl,hww⟩;rw [hww];clear hww HC
 by_cases hz:whichOp l j1 [10,11,12,13]=0
 · have HRE:Hid (F=GQ w (.ok t1 j1)):=by show _=_;rw [HRE1.out];show GQ w (if whichOp l j1 [10,11,12,13]=0 then _ else _)=_;rw [iP hz]
   rw [hz];clear hz HRE1;obtain ⟨u0,u1,u2,u3,u4,u5,uzq⟩:=q6 Xb7.out;have ul:b7<tq.heap.size:=lH Xb7.out;obtain ⟨v0,v1,v2,v3,v4,v5,vzq⟩:=q6 X6.out;have vl:b6<tq.heap.size:=lH X6.out;go_wp2_with fail;clear u0 uzq u1 u2 u3 u4 u5 ul v0 vzq v1 v2 v3 v4 v5 vl;refine bR (rcG (res6 X6.out)) rfl ?_;rw [HRE.out,HQn1.out];exact gq_end (r:=.ok t1 j1) (A':=A1) (c':=c1) _ _ _ _ _ _ HB6.out HV1.out HB.out
 · have HREY:Hid (F=GQ w ((HI1P (j1+1)).then fun u k=>.ok (tmOf (whichOp l j1 [10,11,12,13]) [t1,u]) k)):=by show _=_;rw [HRE1.out];show GQ w (if whichOp l j1 [10,11,12,13]=0 then _ else _)=_;rw [iN hz]
   have hjl2:=which_lt hz;obtain ⟨zz,hzz⟩:=ex_ (whichOp l j1 [10,11,12,13]);rw [←hzz] at hz HREY ⊢;have hzb:(zz == 0)=false:=by simpa using hz
   clear hz hzz HRE1;obtain ⟨u0,u1,u2,u3,u4,u5,uzq⟩:=q6 Xb7.out;have ul:b7<tq.heap.size:=lH Xb7.out;have hcf:=HI1.out (j1+1) tq (by first | omega | (rw [←HN.out];omega)) (HP.out.below HB.out);rw [show ((j1+1:Nat):Int)=(j1:Int)+1 from by omega] at hcf;obtain ⟨r2,HRr2⟩:=exh_ (HI1P (j1+1));rw [←HRr2.out] at hcf;have HC:=Hd hcf;have HGr2:Hid (∀ x k,r2=.ok x k→Gd l (j1+1) x k):=fun x k h=>HI1G.out (j1+1) x k (by rw [←HRr2.out];exact h);have HZr2:Hid (∀ k x,r2=.bad k x→x≠0):=fun k x h=>HI1Z.out (j1+1) k x (by rw [←HRr2.out];exact h);clear hcf;go_wp2_with fail;refine (HC.out).mono ?_;intro e w4 hq;have HRE2:Hid (F=GQ w (r2.then fun u k=>.ok (tmOf zz [t1,u]) k)):=by show _=_;rw [HREY.out,HRr2.out]
   clear HRr2 HREY u0 uzq u1 u2 u3 u4 u5 ul
   rcases r2 with ⟨jb,xb⟩ | ⟨t2,j2⟩
   · obtain ⟨A',c',rfl,hV,hb2⟩:=gq_bad.1 hq;have hx:=HZr2.out _ _ rfl;have hxb:(xb != 0)=true:=by simpa using hx
     have HV:Hid (TmVS (fun q=>w.heap.size<q) w4 A' c' zeroTm):=hV.keep Kr (fun q _ h=>by have:=HB6.out;have:=lH X6.out;omega);replace X6:=kX hb2 X6;replace Xb7:=kX hb2 Xb7;replace HV1:Hid (TmVS (fun q=>w.heap.size<q) w4 A1 c1 t1):=HV1.out.keep (Kb hb2) (fun _ _ h=>h);replace HB:=kB HB hb2;clear hb2 hV hq HC hx;obtain ⟨v0,v1,v2,v3,v4,v5,vzq⟩:=q6 X6.out;have vl:b6<w4.heap.size:=lH X6.out;go_wp2_with fail;clear v0 vzq v1 v2 v3 v4 v5 vl;refine bR (rcG (aK (res6 X6.out))) rfl ?_;rw [HRE2.out];exact gq_enda (r:=.bad jb xb) (A':=A') (c':=c') _ _ _ _ _ _ _ HB6.out HV.out HB.out
   obtain ⟨A2,c2,rfl,hV,hb2⟩:=gq_ok.1 hq;have HV2:Hid (TmVS (fun q=>w.heap.size<q) w4 A2 c2 t2):=hV.keep Kr (fun q _ h=>by have:=HB6.out;have:=lH X6.out;omega);have hgd_j2:=HGr2.out _ _ rfl;have hij_j2:=hgd_j2.ij;have hjl_j2:=hgd_j2.jl;rw [←HN.out] at hjl_j2;clear hgd_j2;obtain ⟨n2,HQn2⟩:=exh_ t2.kids.length;rw [←HQn2.out];replace X6:=kX hb2 X6;replace Xb7:=kX hb2 Xb7;replace HV1:Hid (TmVS (fun q=>w.heap.size<q) w4 A1 c1 t1):=HV1.out.keep (Kb hb2) (fun _ _ h=>h);replace HB:=kB HB hb2;clear hb2 hV hq HC;obtain ⟨b8,hb8⟩:=ex_ w4.heap.size;obtain ⟨w5,hw5⟩:=ex_ (w4.alloc (.cells #[.int .i64 t2.op,.int .i64 t2.num,.string t2.name,.slice A2 n2 c2,.int .i64 (j2:Nat),.int .i64 0] 140));have Xb8:=nAl hw5 hb8;have NEb8:Hid (b8≠b6):=by show _≠_;have:=lH X6.out;omega
   have hal:=bAl hw5;have Qb8:=Hd hb8;have Qw5:=Hd hw5;clear hb8 hw5;replace X6:=kX hal X6;replace Xb7:=kX hal Xb7;replace HV1:Hid (TmVS (fun q=>w.heap.size<q) w5 A1 c1 t1):=HV1.out.keep (Kb hal) (fun _ _ h=>h);replace HV2:Hid (TmVS (fun q=>w.heap.size<q) w5 A2 c2 t2):=HV2.out.keep (Kb hal) (fun _ _ h=>h);replace HB:=kB HB hal;clear hal;go_wp2_with fail;rw [←Qw5.out,←Qb8.out];have nb7:b7≠b6:=NEb7.out;have nb8:b8≠b6:=NEb8.out;obtain ⟨wd,hwd⟩:=ex_ w5.drew;have hbd:Below w5.heap.size w5 wd:=by rw [hwd];exact (Br _ _).drew
   replace X6:=kX hbd X6;replace Xb7:=kX hbd Xb7;replace Xb8:=kX hbd Xb8;replace HV1:Hid (TmVS (fun q=>w.heap.size<q) wd A1 c1 t1):=HV1.out.keep (Kb hbd) (fun _ _ h=>h);replace HV2:Hid (TmVS (fun q=>w.heap.size<q) wd A2 c2 t2):=HV2.out.keep (Kb hbd) (fun _ _ h=>h);replace HB:=kB HB hbd
   have HTW:Hid (Calls Tryz.prog 138 #[.int .i64 zz,.agg #[.int .i64 t1.op,.int .i64 t1.num,.string t1.name,.slice A1 n1 c1],.agg #[.int .i64 t2.op,.int .i64 t2.num,.string t2.name,.slice A2 n2 c2]] wd fun e w'=>∃ g,e=.returned (.agg #[.int .i64 zz,.int .i64 0,.string ⟨#[]⟩,.slice (some ⟨g,0,none⟩) 2 2])∧TmVS (fun q=>w.heap.size<q) w' (some ⟨g,0,none⟩) 2 (tmOf zz [t1,t2])∧Below wd.heap.size wd w'):=by
    have h:=rptwo_any zz t1 t2 A1 c1 A2 c2 (w.heap.size+1) wd (by have:=HB6.out;have:=lH X6.out;omega) HV1.out HV2.out;unfold Tm.val at h;rw [←HQn1.out,←HQn2.out] at h;exact h
   refine wp_region_held_drew (S:=fun w'=>w'.heap[b7]?=some (.cells #[.int .i64 t1.op,.int .i64 t1.num,.string t1.name,.slice A1 n1 c1,.int .i64 (j1:Nat),.int .i64 0] 140 (0,0))∧w'.heap[b8]?=some (.cells #[.int .i64 t2.op,.int .i64 t2.num,.string t2.name,.slice A2 n2 c2,.int .i64 (j2:Nat),.int .i64 0] 140 (0,0))) (by kernel_rfl) (by rw [←hwd];exact ⟨Xb7.out,Xb8.out⟩) (fun hHeld=>?_);rw [←hwd] at hHeld ⊢;clear hwd hbd;refine tkH 0 (v:=?_) (tLRprH rfl) (Or.inl ⟨by rfl,?hy⟩) (by assumption) ?_
   case hy=>
    intro w0 hSw;clear hSw;go_simp
    (first | done | with_reducible rfl)
   (try simp only [Act.put,sAr,sZe,sSu]);refine tkH 1 (v:=?_) (tLRprH rfl) (Or.inl ⟨by rfl,?hy⟩) (by assumption) ?_
   case hy=>
    intro w0 hSw;clear hSw;go_simp
    (first | done | with_reducible rfl)
   (try simp only [Act.put,sAr,sZe,sSu]);refine tkH 2 (v:=?_) (tLRprH rfl) (Or.inl ⟨by rfl,?hy⟩) (by assumption) ?_
   case hy=>
    intro w0 hSw;obtain ⟨e0,e1,e2,e3,e4,e5,-⟩:=q6 hSw.1;obtain ⟨h0,h1,h2,h3,h4,h5,-⟩:=q6 hSw.2;clear hSw;go_simp
    (first | done | with_reducible rfl)
   (try simp only [Act.put,sAr,sZe,sSu]);refine tkH 3 (v:=?_) (tLRprH rfl) (Or.inl ⟨by rfl,?hy⟩) (by assumption) ?_
   case hy=>
    intro w0 hSw;clear hSw;go_simp
    (first | done | with_reducible rfl)
   (try simp only [Act.put,sAr,sZe,sSu]);refine tkH 4 (v:=?_) (tLRprH rfl) (Or.inl ⟨by rfl,?hy⟩) (by assumption) ?_
   case hy=>
    intro w0 hSw;obtain ⟨e0,e1,e2,e3,e4,e5,-⟩:=q6 hSw.1;obtain ⟨h0,h1,h2,h3,h4,h5,-⟩:=q6 hSw.2;clear hSw;go_simp
    (first | done | with_reducible rfl)
   (try simp only [Act.put,sAr,sZe,sSu]);refine tkH 6 (v:=?_) (tLRprH rfl) (Or.inl ⟨by rfl,?hy⟩) (by assumption) ?_
   case hy=>
    intro w0 hSw;clear hSw;go_simp
    (first | done | with_reducible rfl)
   (try simp only [Act.put,sAr,sZe,sSu]);refine tkH 7 (v:=?_) (tLRprH rfl) (Or.inl ⟨by rfl,?hy⟩) (by assumption) ?_
   case hy=>
    intro w0 hSw;obtain ⟨e0,e1,e2,e3,e4,e5,-⟩:=q6 hSw.1;obtain ⟨h0,h1,h2,h3,h4,h5,-⟩:=q6 hSw.2;clear hSw;go_simp
    (first | done | with_reducible rfl)
   (try simp only [Act.put,sAr,sZe,sSu]);refine Rd (rs:=[5]) (by kernel_rfl) (by simp) ?_;refine Rc (tLRprH rfl) (fun K hK=>?_) Rn;go_simp;(with_reducible refine (HTW.out).mono ?_);rintro e w8 ⟨g,rfl,hVT,hbT⟩;have HVT:=Hd hVT;refine hK.out _ _ ⟨(hbT.block b7 (lH Xb7.out)).trans Xb7.out,(hbT.block b8 (lH Xb8.out)).trans Xb8.out⟩ (fun hHeld=>?_);clear hK K;(try simp only [Act.put,sAr,sZe,sSu]);replace X6:=kX hbT X6;replace HB:=kB HB hbT;clear hbT hVT HTW;refine tkH 8 (v:=?_) (tLRprH rfl) (Or.inl ⟨by rfl,?hy⟩) (by assumption) ?_
   case hy=>
    intro w0 hSw;clear hSw;go_simp
    (first | done | with_reducible rfl)
   (try simp only [Act.put,sAr,sZe,sSu]);refine Rd (rs:=[9]) (by kernel_rfl) (by simp) ?_;refine Rc (tLRprH rfl) (fun K hK=>?_) Rn;obtain ⟨v0,v1,v2,v3,v4,v5,vzq⟩:=q6 X6.out;have vl:b6<w8.heap.size:=lH X6.out;go_simp;clear v0 vzq v1 v2 v3 v4 v5 vl;refine hK.out _ _ ⟨(sets6_far nb7).trans hHeld.1,(sets6_far nb8).trans hHeld.2⟩ (fun hHeld=>?_);clear hK K;(try simp only [Act.put,sAr,sZe,sSu]);refine wpAnyH_done (by kernel_rfl) ?_ _;clear hHeld;go_wp2_with fail;refine bR (rcG (res6 X6.out)) rfl ?_;rw [HRE2.out];exact gq_end (r:=.ok (tmOf zz [t1,t2]) j2) (A':=some ⟨g,0,none⟩) (c':=2) _ _ _ _ _ _ HB6.out HVT.out HB.out
theorem rpnot_any (l:List Tok) (d:Nat) (PC PN:Par) (hd:d≤256) (hF:FnR l d 217 PC) (hF2:d<256→FnR l (d+1) 202 PN) (hG2:GdP l PN) (hZ2:NzP PN):FnR l d 202 (fun i=>if isTk l i 4 [33] then (inner (if d=256 then none else some PN) i).then fun t j=>.ok (tmOf 5 [t]) j else PC i):=by
 intro A c i w hi hP;show Calls _ _ _ _ (GQ w (if isTk l i 4 [33] then (inner (if d=256 then none else some PN) i).then fun t j=>.ok (tmOf 5 [t]) j else PC i));obtain ⟨n,b6,w1,F,hlen,hlc,hcm,hs1,X6,HB,HP,HP1,HS,HI,HF,HN,HB6,HW1⟩:=rset A c l w hP (GQ w (if isTk l i 4 [33] then (inner (if d=256 then none else some PN) i).then fun t j=>.ok (tmOf 5 [t]) j else PC i));rw [←HF.out,←HN.out];rw [←HN.out] at hi;clear hP
 have HI1:Hid (∀ (i:Nat) (W:World),i≤l.length→TokIn W A c l→Calls Tryz.prog 217 #[.slice A n c,.int .i64 (i:Nat),.int .i64 (d:Nat)] W (GQ W (PC i))):=by
  intro i W h1 h2;have:=hF A c i W h1 h2;rw [←HN.out] at this;exact this
 have HI2F:Hid (d<256→∀ (i:Nat) (W:World),i≤l.length→TokIn W A c l→Calls Tryz.prog 202 #[.slice A n c,.int .i64 (i:Nat),.int .i64 ((d+1:Nat):Int)] W (GQ W (PN i))):=by
  intro hdd i W h1 h2;have:=hF2 hdd A c i W h1 h2;rw [←HN.out] at this;exact this
 have HI2G:=Hd hG2;have HI2Z:=Hd hZ2;clear hF hF2 hG2 hZ2;go_enter Tryz.func202,Tryz.ntmps202
 by_cases hcl:isTk l i 4 [33]=true
 · have hjl0:=isTk_lt hcl;have HREY:Hid (F=GQ w ((inner (if d=256 then none else some PN) i).then fun t j=>.ok (tmOf 5 [t]) j)):=by show _=_;rw [HF.out,iP hcl]
   have hI:=HS.out i ⟨#[33]⟩ (by omega);rw [show isTk l i 4 (bs ⟨#[33]⟩)=true from hcl] at hI;have HC:=Hd hI;clear hI hcl;go_wp2_with fail;rw [←HW1.out]
   try rw [←HB6.out]
   refine (HC.out).mono ?_;rintro e w' ⟨rfl,hww⟩;rw [hww];clear hww HC
   by_cases h256:d=256
   · have hdb:((d:Int) == 256)=true:=by simp;omega
     have HRE:Hid (F=GQ w (.bad i 17)):=by show _=_;rw [HREY.out,iP h256];rfl
     clear h256 HREY hd;have hcf:=rpfail_any (i) 17 w1;have HC:=Hd hcf;clear hcf;go_wp2_with fail;refine (HC.out).mono ?_;intro e w2 hq;obtain ⟨A',c',rfl,hV,hb2⟩:=gq_bad.1 hq;have X62:=kX hb2 X6;have HB2:=kB HB hb2;have HV:Hid (TmVS (fun q=>w.heap.size<q) w2 A' c' zeroTm):=hV.keep Kr (fun q _ h=>by have:=HB6.out;omega);obtain ⟨v0,v1,v2,v3,v4,v5,zq⟩:=q6 X62.out;have l6:b6<w2.heap.size:=lH X62.out;clear hq hV hb2 HC;go_wp2_with fail;clear v0 v1 v2 v3 v4 v5 zq l6;refine bR (rcG (res6 X62.out)) rfl ?_;rw [HRE.out];exact gq_end (r:=.bad (i) 17) (A':=A') (c':=c') _ _ _ _ _ _ HB6.out HV.out HB2.out
   · have hdb:((d:Int) == 256)=false:=by simp;omega
     have hd2:d<256:=by omega
     have HREZ:Hid (F=GQ w ((PN (i+1)).then fun t j=>.ok (tmOf 5 [t]) j)):=by show _=_;rw [HREY.out,iN h256];rfl
     have HI2:Hid (∀ (i:Nat) (W:World),i≤l.length→TokIn W A c l→Calls Tryz.prog 202 #[.slice A n c,.int .i64 (i:Nat),.int .i64 ((d+1:Nat):Int)] W (GQ W (PN i))):=HI2F.out hd2;obtain ⟨HI2P,hq2⟩:=ex_ PN;rw [←hq2] at HI2 HREZ HI2G HI2Z;clear h256 HREY hq2;have hcf:=HI2.out (i+1) w1 (by first | omega | (rw [←HN.out];omega)) (HP.out.below HB.out);rw [show ((i+1:Nat):Int)=(i:Int)+1 from by omega] at hcf;rw [show ((d+1:Nat):Int)=(d:Int)+1 from by omega] at hcf;obtain ⟨r1,HRr1⟩:=exh_ (HI2P (i+1));rw [←HRr1.out] at hcf;have HC:=Hd hcf;have HGr1:Hid (∀ x k,r1=.ok x k→Gd l (i+1) x k):=fun x k h=>HI2G.out (i+1) x k (by rw [←HRr1.out];exact h);have HZr1:Hid (∀ k x,r1=.bad k x→x≠0):=fun k x h=>HI2Z.out (i+1) k x (by rw [←HRr1.out];exact h);clear hcf;go_wp2_with fail;refine (HC.out).mono ?_;intro e w2 hq;have HRE1:Hid (F=GQ w (r1.then fun t j=>.ok (tmOf 5 [t]) j)):=by show _=_;rw [HREZ.out,HRr1.out]
     clear HRr1 HREZ
     rcases r1 with ⟨jb,xb⟩ | ⟨t1,j1⟩
     · obtain ⟨A',c',rfl,hV,hb2⟩:=gq_bad.1 hq;have hx:=HZr1.out _ _ rfl;have hxb:(xb != 0)=true:=by simpa using hx
       have HV:Hid (TmVS (fun q=>w.heap.size<q) w2 A' c' zeroTm):=hV.keep Kr (fun q _ h=>by have:=HB6.out;have:=lH X6.out;omega);replace X6:=kX hb2 X6;replace HB:=kB HB hb2;clear hb2 hV hq HC hx;obtain ⟨v0,v1,v2,v3,v4,v5,vzq⟩:=q6 X6.out;have vl:b6<w2.heap.size:=lH X6.out;go_wp2_with fail;clear v0 vzq v1 v2 v3 v4 v5 vl;refine bR (rcG (aK (res6 X6.out))) rfl ?_;rw [HRE1.out];exact gq_enda (r:=.bad jb xb) (A':=A') (c':=c') _ _ _ _ _ _ _ HB6.out HV.out HB.out
     obtain ⟨A1,c1,rfl,hV,hb2⟩:=gq_ok.1 hq;have HV1:Hid (TmVS (fun q=>w.heap.size<q) w2 A1 c1 t1):=hV.keep Kr (fun q _ h=>by have:=HB6.out;have:=lH X6.out;omega);have hgd_j1:=HGr1.out _ _ rfl;have hij_j1:=hgd_j1.ij;have hjl_j1:=hgd_j1.jl;rw [←HN.out] at hjl_j1;clear hgd_j1;obtain ⟨n1,HQn1⟩:=exh_ t1.kids.length;rw [←HQn1.out];replace X6:=kX hb2 X6;replace HB:=kB HB hb2;clear hb2 hV hq HC;obtain ⟨v0,v1,v2,v3,v4,v5,vzq⟩:=q6 X6.out;have vl:b6<w2.heap.size:=lH X6.out;go_wp2_with fail;clear v0 vzq v1 v2 v3 v4 v5 vl;refine bR (rcG (aK (aK (res6 X6.out)))) rfl ?_;rw [HRE1.out,HQn1.out]
     exact gq_endr (op:=5) [⟨t1,A1,c1⟩] _ _ _ _ _ _ _ HB6.out (show 1≤3 from by decide) (fun e he=>by
      simp only [List.mem_cons,List.not_mem_nil,or_false] at he;rcases he with rfl
      exact HV1.out) HB.out
 · have hcf:isTk l i 4 [33]=false:=by simpa using hcl
   have HRE:Hid (F=GQ w (PC i)):=by show _=_;rw [HF.out,iN hcl]
   have hI:=HS.out i ⟨#[33]⟩ (by omega);rw [show isTk l i 4 (bs ⟨#[33]⟩)=false from hcf] at hI;have HC:=Hd hI;clear hI hcl hcf;go_wp2_with fail;rw [←HW1.out]
   try rw [←HB6.out]
   refine (HC.out).mono ?_;rintro e w' ⟨rfl,hww⟩;rw [hww];clear hww HC;have hcf:=HI1.out i w1 (by rw [←HN.out];omega) (HP.out.below HB.out);obtain ⟨r,hr⟩:=ex_ (PC i);rw [←hr] at hcf HRE;have HC:=Hd hcf;clear hcf hr;go_wp2_with fail;refine (HC.out).mono ?_;intro e w2 hq;obtain ⟨A',c',rfl,hV,hb2⟩:=hq;have HV:Hid (TmVS (fun q=>w.heap.size<q) w2 A' c' (gotT r)):=hV.keep Kr (fun q _ h=>by have:=HB6.out;have:=lH X6.out;omega);obtain ⟨n2,HQn2⟩:=exh_ ((gotT r).kids.length);rw [←HQn2.out];replace X6:=kX hb2 X6;replace HB:=kB HB hb2;clear hb2 hV HC;obtain ⟨v0,v1,v2,v3,v4,v5,vzq⟩:=q6 X6.out;have vl:b6<w2.heap.size:=lH X6.out;go_wp2_with fail;clear v0 vzq v1 v2 v3 v4 v5 vl;refine bR (rcG (res6 X6.out)) rfl ?_;rw [HRE.out,HQn2.out];exact gq_end (r:=r) (A':=A') (c':=c') _ _ _ _ _ _ HB6.out HV.out HB.out
end Go.Proofs.YtnbphgeepnknlaaGreatDoor
