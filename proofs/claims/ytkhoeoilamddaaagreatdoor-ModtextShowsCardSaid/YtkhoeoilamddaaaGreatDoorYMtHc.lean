/- Walk: modtext's reader.declaration at init, invar, trans, fair. -/
import Derived.Test.YtkhoeoilamddaaaGreatDoorYMtG
namespace Go.Proofs.YtkhoeoilamddaaaGreatDoor
open Go.RowKit
set_option linter.unusedVariables false
set_option linter.unusedSimpArgs false
set_option maxRecDepth 100000
set_option maxHeartbeats 16000000
theorem oF{o:Array Oper}{i:Nat}{x:Oper}(h:o.toList[i]?=some x):o[i]?=some x:=by simpa using h
theorem YG(R:Nat)(A:Option Addr)(c i B:Nat)(l:List Tok)(V:Nat→Value)(X:Nat→List (List Value))(G:Nat→List El)(w:World)(hw:ah l i 3 (ji 5)=true)(hR:kF w R A l.length c i 0 V)(hP:iI w R A c l)(hM:BJ w B R V X G)(jU:B≤R)(hA:∀a,A=some a→a.block<B)(hG:(G 5).length≤64) :
 Calls Tryz.prog 15 #[.pointer (some ⟨R,0,none⟩)] w (qg R A c l B w (if (G 5).length<64 then bO l 4 [59] (kC l 5 (i+1)).2.1 (kC l 5 (i+1)).2.2 else(i,18)) (if (G 5).length<64 then upd G 5 (G 5++[(kC l 5 (i+1)).1])else G)):=by
 obtain⟨F,HF⟩:=ak (qg R A c l B w (if (G 5).length<64 then bO l 4 [59] (kC l 5 (i+1)).2.1 (kC l 5 (i+1)).2.2 else(i,18)) (if (G 5).length<64 then upd G 5 (G 5++[(kC l 5 (i+1)).1])else G));rw[←HF];have hlen:=hP.len;have hcap:=hP.cap;have aQ:=hP.bU;unfold maxLen at aQ;have HP:=Hd hP;obtain⟨b,off,Yw,hbR,hbw,hin,x0,x2⟩:=uL hP hw;obtain⟨a,cp,hV,hcp,Yx⟩:=hM.shape (k:=5) (by omega);obtain⟨nk,FP⟩:=ak (G 5).length;rw[←FP]at hV hcp hG HF;have hcm:=hR.cm (k:=5) (by omega);rw[hV]at hcm;have HV:=Hd hV;have HR:=Hd hR;have HM:=Hd hM;have c0:=hR.c0;have c1:=hR.c1;have fC:=hR.lt;have hBw:B≤w.heap.size:=by omega
 have hl0:0<l.length:=by omega
 have HT0:Hid (∀W,kF W R A l.length c (i+1) 0 V→Below B w W→Calls Tryz.prog 42 #[.pointer (some ⟨R,0,none⟩)] W (fun e w'=>(∃A5 c5,e=.returned ((dK l (i+1) 0).1.val A5 c5)∧aD (fun q=>W.heap.size≤q) w' A5 c5 (dK l (i+1) 0).1)∧Er R A l.length c V (dK l (i+1) 0).2.1 (dK l (i+1) 0).2.2 W w')):=fun W hr hb=>zW R A c (i+1) l 0 V W hr (HP.below hb hA) (by omega) hl0;have FQ:=Hd (fun m=>qL R A l.length c i nk V (w.drewN m) hR (by omega) (by omega));obtain⟨n,HN⟩:=ak l.length;rw[←HN]at c0 hcap hin hlen;have hk0:(0:Int)≤(i:Int):=by omega
 have hk1:(i:Int)<(n:Int):=by omega
 have HA:=Hd hA;subst Yw;clear hA hV hR hP hM hw;simp only[ji,fP,Nat.reduceAdd]at x2 hcm
 go_enter_defers Tryz.func15,Tryz.ntmps15
 go_wp2_with fail
 go_quiet (fail)
 go_wp2_with fail
 go_quiet (fail)
 go_wp2_with fail;refine(FQ _).mono ?_;rintro e w1 ⟨rfl,hg⟩
 by_cases hlt:nk<64
 ·rw[iP hlt,iP hlt]at hg;rw[iP hlt,iP hlt]at HF;have hdt:decide (nk<64)=true:=decide_eq_true hlt;have hs1:=hg.2.2;have fA:Hid (DS w B R (some ⟨b,off,none⟩) l.length c V X G (i+1) 0 (fun _=>True) (EW B R V) w1):=⟨hg.1,HM.move (fun q _ hl hR=>hg.2.1.block q hl hR) (Nat.le_of_eq hs1.symm),b_ (w:=w) ⟨hg.2.1.os,hg.2.1.tape,hg.2.1.output,Nat.le_of_eq hs1.symm,hg.2.1.block⟩ jU hBw,jU,by rw[hs1];exact hBw⟩;clear hg;obtain⟨i0,hi0,hz0,hz1,hz2⟩:=info_parts Cv;have ru:Hid (kC l 5 (i+1)=(.trans (dK l (i+1) 0).1,(dK l (i+1) 0).2)):=rfl;have zy:Hid ((dK l (i+1) 0).2.2=0→(dK l (i+1) 0).2.1≤l.length):=Hg
  generalize dK l (i+1) 0=tt at HT0 ru zy
  obtain⟨t,j,y⟩:=tt;simp only at HT0 ru zy;have HE:Hid ((kC l 5 (i+1)).1=.trans t):=by show _=_;rw[ru]
  have HE2:Hid ((kC l 5 (i+1)).2=(j,y)):=by show _=_;rw[ru]
  rw[HE2]at HF;simp only at HF;have Yy:=zy;clear ru HE2 zy;rw[hdt];clear hdt;go_wp2_with fail;refine wp_region_noPanic ?_;refine wp_region_held_drew (S:=fun _=>True) (by kernel_rfl) trivial (fun _=>?_);have hT:True:=trivial;have Yz:(0:Int)≤(nk:Int):=by omega
  have YA:(nk:Int)<(nk:Int)+1:=by omega
  obtain⟨Wc,hWc⟩:=aj w1.drew;have HS:Hid (DS w B R (some ⟨b,off,none⟩) l.length c V X G (i+1) 0 (fun _=>True) (EW B R V) Wc):=by show DS _ _ _ _ _ _ _ _ _ _ _ _ _ _;rw[hWc];exact fA.only (fA.bN.drewN 1) (Only.refl.drewN 1)
  obtain⟨ws,hws⟩:=aj w1.heap.size;have kY:Hid (ws≤Wc.heap.size):=by show _≤_;rw[hws,hWc];exact lr _
  have HRW:Hid (∀q,(V 5).ownBlock=some q→q<ws):=fun q hq=>by rw[hws];exact(fA.own.lt 5 (by omega) q hq).2.1
  have SI:Hid (∀j,j<8→∀q,(V j).ownBlock=some q→q<ws):=fun j hj q hq=>by rw[hws];exact(fA.own.lt j hj q hq).2.1
  have KV:Hid (B≤ws):=by show _≤_;rw[hws];exact fA.big
  have BI:Hid (R<ws):=by show _<_;rw[hws];exact fA.bN.lt
  have HT:=HT0;rw[←hWc];clear hWc hws fA HT0 c0 c1 x0 x2 hcm FQ hs1
  repeat
   (first|refine aI 0 (v:=?_) rfl ?hy ?_|refine aI 1 (v:=?_) rfl ?hy ?_|refine aI 2 (v:=?_) rfl ?hy ?_|refine aI 4 (v:=?_) rfl ?hy ?_|refine aI 6 (v:=?_) rfl ?hy ?_|refine aI 9 (v:=?_) rfl ?hy ?_|refine aI 11 (v:=?_) rfl ?hy ?_|refine aI 12 (v:=?_) rfl ?hy ?_
    case hy=>
     intro w0 hS;clear hS;go_simp
     (first|done|with_reducible rfl)
    try simp only[Act.put,aT,aU,aV])
  iterate 6
   all_goals first
    |refine Rd (rs:=[3,5,7]) (by decide +kernel) (by simp) (Rc (oF rfl) (fun K hK=>?_) (Rc (oF rfl) (fun K hK=>?_) (Rc (oF rfl) (fun K hK=>?_) Rn)))
    |refine Rd (rs:=[5,7]) (by decide +kernel) (by simp) (Rc (oF rfl) (fun K hK=>?_) (Rc (oF rfl) (fun K hK=>?_) Rn))
    |refine Rd (rs:=[3,7]) (by decide +kernel) (by simp) (Rc (oF rfl) (fun K hK=>?_) (Rc (oF rfl) (fun K hK=>?_) Rn))
    |refine Rd (rs:=[3,5]) (by decide +kernel) (by simp) (Rc (oF rfl) (fun K hK=>?_) (Rc (oF rfl) (fun K hK=>?_) Rn))
    |refine Rd (rs:=[10,13]) (by decide +kernel) (by simp) (Rc (oF rfl) (fun K hK=>?_) (Rc (oF rfl) (fun K hK=>?_) Rn))
    |refine Rd (rs:=[7]) (by decide +kernel) (by simp) (Rc (oF rfl) (fun K hK=>?_) Rn)
    |refine Rd (rs:=[5]) (by decide +kernel) (by simp) (Rc (oF rfl) (fun K hK=>?_) Rn)
    |refine Rd (rs:=[3]) (by decide +kernel) (by simp) (Rc (oF rfl) (fun K hK=>?_) Rn)
    |refine Rd (rs:=[8]) (by decide +kernel) (by simp) (Rc (oF rfl) (fun K hK=>?_) Rn)
    |refine Rd (rs:=[13]) (by decide +kernel) (by simp) (Rc (oF rfl) (fun K hK=>?_) Rn)
    |refine Rd (rs:=[10]) (by decide +kernel) (by simp) (Rc (oF rfl) (fun K hK=>?_) Rn)
    |fail
   all_goals first
    |(refine Tj ?_
      have y3:=HS.bN.cm (k:=5) (by omega);rw[HV]at y3;simp only[Nat.reduceAdd]at y3;go_simp;clear y3;refine hK.out _ Wc trivial (fun _=>?_);clear hK K
      try simp only[Act.put,aT,aU,aV])
    |(refine WE ?_
      go_simp;(with_reducible refine(HT.out _ HS.out.bN HS.out.mW).mono ?_);rintro e We ⟨⟨A5,c5,rfl,hv5⟩,hg5⟩;simp only[Tm.val];obtain⟨n5,EP⟩:=ak t.kids.length;rw[←EP];refine hK.out _ _ trivial (fun _=>?_);clear hK K;(try simp only[Act.put,aT,aU,aV]);have hs5:=hg5.2.size
      first
       |(have HV5:Hid (aD (fun q=>ws≤q∧q≠g) We A5 c5 t):=hv5.keep Kr (fun q _ h=>by have:=(HOWN.lt g rfl).2;have:=kY.out;omega)
         have ho7:=oC HOWN (fun q hq=>hg5.2.block q (HOWN.lt q hq).2 (fun e=>by have e2:g=q:=(by simpa[Value.ownBlock]using hq);omega));clear HOWN;have HOWN:=Hd ho7
         clear ho7)
       |(have vH:Hid (aD (fun q=>ws≤q) We A5 c5 t):=hv5.keep Kr (fun q _ h=>by have:=kY.out;omega))
      first
       |(have hz2:=(hg5.2.block z (lH HZ) Ul).trans HZ
         clear HZ;have HZ:=Hd hz2
         clear hz2)
       |skip
      replace HS:=Hd (HS.only hg5.1 hg5.2);replace kY:Hid (ws≤We.heap.size):=Nat.le_trans kY hs5;clear hv5 hg5 hs5 Wc
      rename World=>Wc)
    |(refine QI ?_
      go_simp;refine hK.out _ (Wc.alloc (.cells #[.int .i64 0,.int .i64 0,.string ⟨#[]⟩,.slice none 0 0] 64)) trivial (fun _=>?_);clear hK K;(try simp only[Act.put,aT,aU,aV]);obtain⟨z,hz⟩:=aj Wc.heap.size;obtain⟨We,hV⟩:=aj (Wc.alloc (.cells #[.int .i64 0,.int .i64 0,.string ⟨#[]⟩,.slice none 0 0] 64));have Ul:z≠R:=by have:=HS.bN.lt;omega
      have hb5:=dz hV;have HZ:=jZ hV hz
      first
       |(have hv2:=vH.keep (Kb hb5) (fun _ _ h=>h)
         clear vH;have vH:=Hd hv2
         clear hv2)
       |skip
      replace HS:=Hd (HS.below hb5);replace kY:Hid (ws≤We.heap.size):=Nat.le_trans kY hb5.size;rw[←hV,←hz];clear hV hz hb5 Wc
      rename World=>Wc)
    |(refine Gw ?_
      have y3:=HS.bN.cm (k:=5) (by omega);have f3:=HS.bN.frozen (3+5);have FT:=HS.bN.lt;simp only[Nat.reduceAdd]at y3 f3;go_simp;clear y3 f3 FT;refine hK.out _ _ trivial (fun _=>?_);clear hK K;(try simp only[Act.put,aT,aU,aV]);obtain⟨D13,-⟩:∃n:Nat,n=n:=⟨0,rfl⟩
      first
       |have:=G7
       |(obtain⟨W9,CK⟩:=aj (Wc.setCell ⟨R,8,none⟩ (.slice (some ⟨g,0,none⟩) (nk+1) cap))
         have fM:=Hd (oC (w':=W9) HOWN (fun q hq=>by rw[CK];exact iw Wc ⟨R,8,none⟩ q _ (by have e2:g=q:=(by simpa[Value.ownBlock]using hq);show q≠R;omega)));rw[←CK];have HW9:=Hd CK
         clear CK))
    |(refine Gw ?_
      have Pf:Hid ((X 5).flatten.length=nk*4):=by
       have h:=HOWN.1;simp only[List.length_append,List.length_cons,List.length_nil]at h;show _=_;omega
      first
       |(obtain⟨y0,y1,y2,y3,yz⟩:=qP fM Pf
         have hgl:=(fM.lt g rfl).2)
       |(obtain⟨y0,y1,y2,y3,yz⟩:=qP HOWN Pf
         have hgl:=(HOWN.lt g rfl).2)
      go_simp;clear y0 y1 y2 y3 yz hgl;refine hK.out _ _ trivial (fun _=>?_);clear hK K;(try simp only[Act.put,aT,aU,aV]);obtain⟨G7,-⟩:∃n:Nat,n=n:=⟨0,rfl⟩
      first
       |have:=D13
       |(obtain⟨We,A_⟩:=aj ((((Wc.setCell ⟨g,nk*4,none⟩ (.int .i64 t.op)).setCell ⟨g,nk*4+1,none⟩ (.int .i64 t.num)).setCell ⟨g,nk*4+2,none⟩ (.string t.name)).setCell ⟨g,nk*4+3,none⟩ (.slice A5 n5 c5))
         have ho:Only (fun q=>q=g) Wc We:=by rw[A_];exact CP _ _ _ _
         have iC:We.ownsRow B 64 4 (.slice (some ⟨g,0,none⟩) (nk+1) cap) (nk+1) ((X 5).flatten++[.int .i64 t.op,.int .i64 t.num,.string t.name,.slice A5 n5 c5]):=by rw[A_];exact qO HOWN Pf
         replace HV5:Hid (aD (fun q=>ws≤q∧q≠g) We A5 c5 t):=HV5.keep (aR.cO ho (by simp)) (fun _ _ h=>h);replace HS:=Hd (HS.aside ho (fun _ h=>h.2) MU hgR (HOWN.lt g rfl).1);replace kY:Hid (ws≤We.heap.size):=Nat.le_trans kY ho.size;clear HOWN;have HOWN:=Hd iC;rw[←A_];clear A_ ho iC Wc
         rename World=>Wc))
    |(refine step_append_lies _ (by rfl) _ _ _ (by rfl) B 64 i0 (.agg #[.int .i64 0,.int .i64 0,.string ⟨#[]⟩,.slice none 0 0]) 4 56 Tryz.underlying25 hi0 hz0 hz1 hz2 rfl (by decide) (.slice a nk cp) nk (X 5).flatten (by rfl) (by have h:=HS.own.own 5 (by omega) trivial;rw[HV,←FP]at h;exact h) ⟨z,0,none⟩ 1 1 [.int .i64 0,.int .i64 0,.string ⟨#[]⟩,.slice none 0 0] (by rfl) (by rfl) (World.news_of_block HZ) (by simp[Value.oneCell']) (by decide) (by unfold maxLen;omega) (by omega) HS.big _ rfl ?_
      intro g cap We dN dO ku yV;refine hK.out _ _ trivial (fun _=>?_);clear hK K;(try simp only[Act.put,aT,aU,aV]);have xZ:Hid (Wc.grownBy We (V 5).ownBlock):=by show World.grownBy _ _ _;rw[HV];exact dO
      have HAT:Hid ((V 5).ownBlock=some g∨g=Wc.heap.size):=by show _∨_;rw[HV];exact ku
      have HOWN:=Hd dN
      have hgR:g≠R:=by
       rcases HAT.out with h|h
       ·exact(HS.own.lt 5 (by omega) g h).2.2
       ·have:=HS.bN.lt;omega
      have MU:Hid (∀j,j<8→j≠5→(V j).ownBlock≠some g):=fun j hj hne e=>by
       rcases HAT.out with h|h
       ·exact HS.own.ap j 5 hj (by omega) hne g e h
       ·have:=(HS.own.lt j hj g e).2.1;omega
      first
       |(have HV5:Hid (aD (fun q=>ws≤q∧q≠g) We A5 c5 t):=(vH.keep (S':=fun q=>ws≤q∧q≠g) Kr (fun q hq h=>⟨h,by
          rcases HAT.out with h2|h2
          ·have:=HRW g h2;omega
          ·omega⟩)).keep ⟨xZ.size,fun q hq hl=>xZ.block q hl (fun e=>by have:=HRW q e.symm;omega)⟩ (fun _ _ h=>h)
         clear vH)
       |skip
      replace kY:Hid (ws≤We.heap.size):=Nat.le_trans kY xZ.size;replace HS:=Hd (HS.grown (k:=5) (by omega) xZ HAT);clear dN dO ku xZ HAT yV HZ Ul Wc
      rename World=>Wc)
    |fail
   all_goals
    repeat
     (first|refine aI 0 (v:=?_) rfl ?hy ?_|refine aI 1 (v:=?_) rfl ?hy ?_|refine aI 2 (v:=?_) rfl ?hy ?_|refine aI 4 (v:=?_) rfl ?hy ?_|refine aI 6 (v:=?_) rfl ?hy ?_|refine aI 9 (v:=?_) rfl ?hy ?_|refine aI 11 (v:=?_) rfl ?hy ?_|refine aI 12 (v:=?_) rfl ?hy ?_
      case hy=>
       intro w0 hS;clear hS;go_simp
       (first|done|with_reducible rfl)
      try simp only[Act.put,aT,aU,aV])
  all_goals refine wpAnyH_done (by decide +kernel) ?_ _
  all_goals
   refine NoPanic.normal ?_
   first
    |(rw[HW9,Rx (Ne.symm hgR)]
      clear HW9 fM;obtain⟨We,A_⟩:=aj ((((Wc.setCell ⟨g,nk*4,none⟩ (.int .i64 t.op)).setCell ⟨g,nk*4+1,none⟩ (.int .i64 t.num)).setCell ⟨g,nk*4+2,none⟩ (.string t.name)).setCell ⟨g,nk*4+3,none⟩ (.slice A5 n5 c5));have ho:Only (fun q=>q=g) Wc We:=by rw[A_];exact CP _ _ _ _
      have iC:We.ownsRow B 64 4 (.slice (some ⟨g,0,none⟩) (nk+1) cap) (nk+1) ((X 5).flatten++[.int .i64 t.op,.int .i64 t.num,.string t.name,.slice A5 n5 c5]):=by rw[A_];exact qO HOWN Pf
      replace HV5:Hid (aD (fun q=>ws≤q∧q≠g) We A5 c5 t):=HV5.keep (aR.cO ho (by simp)) (fun _ _ h=>h);replace HS:=Hd (HS.aside ho (fun _ h=>h.2) MU hgR (HOWN.lt g rfl).1);replace kY:Hid (ws≤We.heap.size):=Nat.le_trans kY ho.size;clear HOWN;have HOWN:=Hd iC;rw[←A_];clear A_ ho iC Wc
      rename World=>Wc)
    |skip
   have hop:=HS.own.put (k:=5) (w':=Wc.setCell ⟨R,8,none⟩ (.slice (some ⟨g,0,none⟩) (nk+1) cap)) (e:=(kC l 5 (i+1)).1) (by omega) HOWN (by rw[FP]) hgR MU (fun _ h=>h.2) (S0:=fun q=>ws≤q∧q≠g) (by
    rw[HE]
    exact⟨A5,c5,by rw[EP],HV5⟩) (fun q _ h=>⟨by have:=KV.out;omega,by have:=BI.out;omega,h.2,fun j hj e=>by have:=SI j hj q e;omega⟩) (setAt _)
   have Ba:=HS.bN.put (k:=5) (by omega) (.slice (some ⟨g,0,none⟩) (nk+1) cap);have hbl:Below B w (Wc.setCell ⟨R,8,none⟩ (.slice (some ⟨g,0,none⟩) (nk+1) cap)):=HS.mW.setCell jU _;have hbg:=HS.big;obtain⟨WF,FU⟩:=aj (Wc.setCell ⟨R,8,none⟩ (.slice (some ⟨g,0,none⟩) (nk+1) cap));have hsF:WF.heap.size=Wc.heap.size:=by rw[FU];simp
   simp only[Nat.reduceAdd]at Ba;rw[←FU]at hop Ba hbl⊢;have gy:=Hd hop;have YC:=Hd Ba;have oU:=Hd hbl;clear hop Ba hbl FU;go_wp2_with fail;exact gI HF YC gy oU (HP.below oU HA) jU (by omega) (fun h=>by have:=Yy h;have:=HN.out;omega) _ (by first|exact Or.inl rfl|exact Or.inr rfl)
 ·rw[iN hlt,iN hlt]at hg;rw[iN hlt,iN hlt]at HF;have hs1:=hg.2.2;have hm:bO l 4 [59] i 18=(i,18):=rfl;rw[←hm]at HF;have fA:Hid (DS w B R (some ⟨b,off,none⟩) l.length c V X G i 18 (fun _=>True) (EW B R V) w1):=⟨hg.1,HM.move (fun q _ hl hR=>hg.2.1.block q hl hR) (Nat.le_of_eq hs1.symm),b_ (w:=w) ⟨hg.2.1.os,hg.2.1.tape,hg.2.1.output,Nat.le_of_eq hs1.symm,hg.2.1.block⟩ jU hBw,jU,by rw[hs1];exact hBw⟩;rw[dF hlt];clear hg hm c0 c1 x0 x2 hcm FQ HT0 hs1;go_wp2_with fail;exact gI HF fA.bN fA.own fA.mW (HP.below fA.mW HA) jU fA.big (fun _=>by omega) _ (by first|exact Or.inl rfl|exact Or.inr rfl)
end Go.Proofs.YtkhoeoilamddaaaGreatDoor
