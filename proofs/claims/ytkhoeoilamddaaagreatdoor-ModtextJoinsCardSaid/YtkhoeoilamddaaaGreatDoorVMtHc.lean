/- Walks and plain words: MtHc MtHd MtI. -/
import Derived.Test.YtkhoeoilamddaaaGreatDoorVMtG
namespace Go.Proofs.YtkhoeoilamddaaaGreatDoor
open Go.RowKit
set_option linter.unusedVariables false
set_option linter.unusedSimpArgs false
set_option maxRecDepth 100000
set_option maxHeartbeats 16000000
theorem tLMtHc {o:Array Oper} {i:Nat} {x:Oper} (h:o.toList[i]?=some x):o[i]?=some x:=by simpa using h
theorem mdecl5_any (R:Nat) (A:Option Addr) (c i B:Nat) (l:List Tok) (V:Nat→Value) (X:Nat→List (List Value)) (G:Nat→List El) (w:World) (hw:isTk l i 3 (wordOf 5)=true) (hR:MRd w R A l.length c i 0 V) (hP:PTok w R A c l) (hM:MAll w B R V X G) (hBR:B≤R) (hA:∀ a,A=some a→a.block<B) (hG:(G 5).length≤64) :
 Calls Tryz.prog 15 #[.pointer (some ⟨R,0,none⟩)] w (DPost R A c l B w (if (G 5).length<64 then mustS l 4 [59] (elS l 5 (i+1)).2.1 (elS l 5 (i+1)).2.2 else (i,18)) (if (G 5).length<64 then upd G 5 (G 5++[(elS l 5 (i+1)).1]) else G)):=by
 obtain ⟨F,HF⟩:=exh_ (DPost R A c l B w (if (G 5).length<64 then mustS l 4 [59] (elS l 5 (i+1)).2.1 (elS l 5 (i+1)).2.2 else (i,18)) (if (G 5).length<64 then upd G 5 (G 5++[(elS l 5 (i+1)).1]) else G));rw [←HF.out];have hlen:=hP.len;have hcap:=hP.cap;have hcapm:=hP.capm;unfold maxLen at hcapm;have HP:=Hd hP;obtain ⟨b,off,hAb,hbR,hbw,hin,x0,x2⟩:=tk_cells hP hw;obtain ⟨a,cp,hV,hcp,hcpm⟩:=hM.shape (k:=5) (by omega);obtain ⟨nk,HNK⟩:=exh_ (G 5).length;rw [←HNK.out] at hV hcp hG HF;have hcm:=hR.cm (k:=5) (by omega);rw [hV] at hcm;have HV:=Hd hV;have HR:=Hd hR;have HM:=Hd hM;have c0:=hR.c0;have c1:=hR.c1;have hRlt:=hR.lt;have hBw:B≤w.heap.size:=by omega
 have hl0:0<l.length:=by omega
 have HT0:Hid (∀ W,MRd W R A l.length c (i+1) 0 V→Below B w W→Calls Tryz.prog 42 #[.pointer (some ⟨R,0,none⟩)] W (fun e w'=>(∃ A5 c5,e=.returned ((termS l (i+1) 0).1.val A5 c5)∧TmVS (fun q=>W.heap.size≤q) w' A5 c5 (termS l (i+1) 0).1)∧MFin R A l.length c V (termS l (i+1) 0).2.1 (termS l (i+1) 0).2.2 W w')):=fun W hr hb=>mterm_any R A c (i+1) l 0 V W hr (HP.out.below hb hA) (by omega) hl0;have HMO:=Hd (fun m=>mmore_any R A l.length c i nk V (w.drewN m) hR (by omega) (by omega));obtain ⟨n,HN⟩:=exh_ l.length;rw [←HN.out] at c0 hcap hin hlen;have hk0:(0:Int)≤(i:Int):=by omega
 have hk1:(i:Int)<(n:Int):=by omega
 have HA:=Hd hA;subst hAb;clear hA hV hR hP hM hw;simp only [wordOf,wTrans,Nat.reduceAdd] at x2 hcm
 go_enter_defers Tryz.func15,Tryz.ntmps15
 go_wp2_with fail
 go_quiet (fail)
 go_wp2_with fail
 go_quiet (fail)
 go_wp2_with fail;refine (HMO.out _).mono ?_;rintro e w1 ⟨rfl,hg⟩
 by_cases hlt:nk<64
 · rw [iP hlt,iP hlt] at hg;rw [iP hlt,iP hlt] at HF;have hdt:decide (nk<64)=true:=decide_eq_true hlt;have hs1:=hg.2.2;have HS1:Hid (DS w B R (some ⟨b,off,none⟩) l.length c V X G (i+1) 0 (fun _=>True) (SOf B R V) w1):=⟨hg.1,HM.out.move (fun q _ hl hR=>hg.2.1.block q hl hR) (Nat.le_of_eq hs1.symm),only_belowB (w:=w) ⟨hg.2.1.os,hg.2.1.tape,hg.2.1.output,Nat.le_of_eq hs1.symm,hg.2.1.block⟩ hBR hBw,hBR,by rw [hs1];exact hBw⟩;clear hg;obtain ⟨i0,hi0,hz0,hz1,hz2⟩:=info_parts infoTm;have HE0:Hid (elS l 5 (i+1)=(.trans (termS l (i+1) 0).1,(termS l (i+1) 0).2)):=rfl;have HJ0:Hid ((termS l (i+1) 0).2.2=0→(termS l (i+1) 0).2.1≤l.length):=termS_ok
   generalize termS l (i+1) 0=tt at HT0 HE0 HJ0
   obtain ⟨t,j,y⟩:=tt;simp only at HT0 HE0 HJ0;have HE:Hid ((elS l 5 (i+1)).1=.trans t):=by show _=_;rw [HE0.out]
   have HE2:Hid ((elS l 5 (i+1)).2=(j,y)):=by show _=_;rw [HE0.out]
   rw [HE2.out] at HF;simp only at HF;have HJL:=HJ0;clear HE0 HE2 HJ0;rw [hdt];clear hdt;go_wp2_with fail;refine wp_region_noPanic ?_;refine wp_region_held_drew (S:=fun _=>True) (by kernel_rfl) trivial (fun _=>?_);have hT:True:=trivial;have hkk0:(0:Int)≤(nk:Int):=by omega
   have hkk1:(nk:Int)<(nk:Int)+1:=by omega
   obtain ⟨Wc,hWc⟩:=ex_ w1.drew;have HS:Hid (DS w B R (some ⟨b,off,none⟩) l.length c V X G (i+1) 0 (fun _=>True) (SOf B R V) Wc):=by show DS _ _ _ _ _ _ _ _ _ _ _ _ _ _;rw [hWc];exact HS1.out.only (HS1.out.rdr.drewN 1) (Only.refl.drewN 1)
   obtain ⟨ws,hws⟩:=ex_ w1.heap.size;have HWS:Hid (ws≤Wc.heap.size):=by show _≤_;rw [hws,hWc];exact lr _
   have HRW:Hid (∀ q,(V 5).ownBlock=some q→q<ws):=fun q hq=>by rw [hws];exact (HS1.out.own.lt 5 (by omega) q hq).2.1
   have HRA:Hid (∀ j,j<8→∀ q,(V j).ownBlock=some q→q<ws):=fun j hj q hq=>by rw [hws];exact (HS1.out.own.lt j hj q hq).2.1
   have HBS:Hid (B≤ws):=by show _≤_;rw [hws];exact HS1.out.big
   have HRS:Hid (R<ws):=by show _<_;rw [hws];exact HS1.out.rdr.lt
   have HT:=HT0;rw [←hWc];clear hWc hws HS1 HT0 c0 c1 x0 x2 hcm HMO hs1
   repeat
    (first | refine tkI 0 (v:=?_) rfl ?hy ?_ | refine tkI 1 (v:=?_) rfl ?hy ?_ | refine tkI 2 (v:=?_) rfl ?hy ?_ | refine tkI 4 (v:=?_) rfl ?hy ?_ | refine tkI 6 (v:=?_) rfl ?hy ?_ | refine tkI 9 (v:=?_) rfl ?hy ?_ | refine tkI 11 (v:=?_) rfl ?hy ?_ | refine tkI 12 (v:=?_) rfl ?hy ?_
     case hy=>
      intro w0 hS;clear hS;go_simp
      (first | done | with_reducible rfl)
     try simp only [Act.put,sAr,sZe,sSu])
   iterate 6
    all_goals first
     | refine Rd (rs:=[3,5,7]) (by decide +kernel) (by simp) (Rc (tLMtHc rfl) (fun K hK=>?_) (Rc (tLMtHc rfl) (fun K hK=>?_) (Rc (tLMtHc rfl) (fun K hK=>?_) Rn)))
     | refine Rd (rs:=[5,7]) (by decide +kernel) (by simp) (Rc (tLMtHc rfl) (fun K hK=>?_) (Rc (tLMtHc rfl) (fun K hK=>?_) Rn))
     | refine Rd (rs:=[3,7]) (by decide +kernel) (by simp) (Rc (tLMtHc rfl) (fun K hK=>?_) (Rc (tLMtHc rfl) (fun K hK=>?_) Rn))
     | refine Rd (rs:=[3,5]) (by decide +kernel) (by simp) (Rc (tLMtHc rfl) (fun K hK=>?_) (Rc (tLMtHc rfl) (fun K hK=>?_) Rn))
     | refine Rd (rs:=[10,13]) (by decide +kernel) (by simp) (Rc (tLMtHc rfl) (fun K hK=>?_) (Rc (tLMtHc rfl) (fun K hK=>?_) Rn))
     | refine Rd (rs:=[7]) (by decide +kernel) (by simp) (Rc (tLMtHc rfl) (fun K hK=>?_) Rn)
     | refine Rd (rs:=[5]) (by decide +kernel) (by simp) (Rc (tLMtHc rfl) (fun K hK=>?_) Rn)
     | refine Rd (rs:=[3]) (by decide +kernel) (by simp) (Rc (tLMtHc rfl) (fun K hK=>?_) Rn)
     | refine Rd (rs:=[8]) (by decide +kernel) (by simp) (Rc (tLMtHc rfl) (fun K hK=>?_) Rn)
     | refine Rd (rs:=[13]) (by decide +kernel) (by simp) (Rc (tLMtHc rfl) (fun K hK=>?_) Rn)
     | refine Rd (rs:=[10]) (by decide +kernel) (by simp) (Rc (tLMtHc rfl) (fun K hK=>?_) Rn)
     | fail
    all_goals first
     | (refine isLd ?_
        have y3:=HS.out.rdr.cm (k:=5) (by omega);rw [HV.out] at y3;simp only [Nat.reduceAdd] at y3;go_simp;clear y3;refine hK.out _ Wc trivial (fun _=>?_);clear hK K
        try simp only [Act.put,sAr,sZe,sSu])
     | (refine isCl ?_
        go_simp;(with_reducible refine (HT.out _ HS.out.rdr HS.out.bel).mono ?_);rintro e We ⟨⟨A5,c5,rfl,hv5⟩,hg5⟩;simp only [Tm.val];obtain ⟨n5,HN5⟩:=exh_ t.kids.length;rw [←HN5.out];refine hK.out _ _ trivial (fun _=>?_);clear hK K;(try simp only [Act.put,sAr,sZe,sSu]);have hs5:=hg5.2.size
        first
         | (have HV5:Hid (TmVS (fun q=>ws≤q∧q≠g) We A5 c5 t):=hv5.keep Kr (fun q _ h=>by have:=(HOWN.out.lt g rfl).2;have:=HWS.out;omega)
            have ho7:=own_at HOWN.out (fun q hq=>hg5.2.block q (HOWN.out.lt q hq).2 (fun e=>by have e2:g=q:=(by simpa [Value.ownBlock] using hq);omega));clear HOWN;have HOWN:=Hd ho7
            clear ho7)
         | (have HV0:Hid (TmVS (fun q=>ws≤q) We A5 c5 t):=hv5.keep Kr (fun q _ h=>by have:=HWS.out;omega))
        first
         | (have hz2:=(hg5.2.block z (lH HZ.out) hzR).trans HZ.out
            clear HZ;have HZ:=Hd hz2
            clear hz2)
         | skip
        replace HS:=Hd (HS.out.only hg5.1 hg5.2);replace HWS:Hid (ws≤We.heap.size):=Nat.le_trans HWS.out hs5;clear hv5 hg5 hs5 Wc
        rename World=>Wc)
     | (refine isBs ?_
        go_simp;refine hK.out _ (Wc.alloc (.cells #[.int .i64 0,.int .i64 0,.string ⟨#[]⟩,.slice none 0 0] 64)) trivial (fun _=>?_);clear hK K;(try simp only [Act.put,sAr,sZe,sSu]);obtain ⟨z,hz⟩:=ex_ Wc.heap.size;obtain ⟨We,hV⟩:=ex_ (Wc.alloc (.cells #[.int .i64 0,.int .i64 0,.string ⟨#[]⟩,.slice none 0 0] 64));have hzR:z≠R:=by have:=HS.out.rdr.lt;omega
        have hb5:=bAl hV;have HZ:=nAl hV hz
        first
         | (have hv2:=HV0.out.keep (Kb hb5) (fun _ _ h=>h)
            clear HV0;have HV0:=Hd hv2
            clear hv2)
         | skip
        replace HS:=Hd (HS.out.below hb5);replace HWS:Hid (ws≤We.heap.size):=Nat.le_trans HWS.out hb5.size;rw [←hV,←hz];clear hV hz hb5 Wc
        rename World=>Wc)
     | (refine isSt ?_
        have y3:=HS.out.rdr.cm (k:=5) (by omega);have f3:=HS.out.rdr.frozen (3+5);have hRl9:=HS.out.rdr.lt;simp only [Nat.reduceAdd] at y3 f3;go_simp;clear y3 f3 hRl9;refine hK.out _ _ trivial (fun _=>?_);clear hK K;(try simp only [Act.put,sAr,sZe,sSu]);obtain ⟨D13,-⟩:∃ n:Nat,n=n:=⟨0,rfl⟩
        first
         | have:=D10
         | (obtain ⟨W9,hW9⟩:=ex_ (Wc.setCell ⟨R,8,none⟩ (.slice (some ⟨g,0,none⟩) (nk+1) cap))
            have HOWNC:=Hd (own_at (w':=W9) HOWN.out (fun q hq=>by rw [hW9];exact hO_ Wc ⟨R,8,none⟩ q _ (by have e2:g=q:=(by simpa [Value.ownBlock] using hq);show q≠R;omega)));rw [←hW9];have HW9:=Hd hW9
            clear hW9))
     | (refine isSt ?_
        have HXL:Hid ((X 5).flatten.length=nk*4):=by
         have h:=HOWN.out.1;simp only [List.length_append,List.length_cons,List.length_nil] at h;show _=_;omega
        first
         | (obtain ⟨y0,y1,y2,y3,yz⟩:=own_cell4 HOWNC.out HXL.out
            have hgl:=(HOWNC.out.lt g rfl).2)
         | (obtain ⟨y0,y1,y2,y3,yz⟩:=own_cell4 HOWN.out HXL.out
            have hgl:=(HOWN.out.lt g rfl).2)
        go_simp;clear y0 y1 y2 y3 yz hgl;refine hK.out _ _ trivial (fun _=>?_);clear hK K;(try simp only [Act.put,sAr,sZe,sSu]);obtain ⟨D10,-⟩:∃ n:Nat,n=n:=⟨0,rfl⟩
        first
         | have:=D13
         | (obtain ⟨We,hWe⟩:=ex_ ((((Wc.setCell ⟨g,nk*4,none⟩ (.int .i64 t.op)).setCell ⟨g,nk*4+1,none⟩ (.int .i64 t.num)).setCell ⟨g,nk*4+2,none⟩ (.string t.name)).setCell ⟨g,nk*4+3,none⟩ (.slice A5 n5 c5))
            have ho:Only (fun q=>q=g) Wc We:=by rw [hWe];exact onlyO4 _ _ _ _
            have ho4:We.ownsRow B 64 4 (.slice (some ⟨g,0,none⟩) (nk+1) cap) (nk+1) ((X 5).flatten++[.int .i64 t.op,.int .i64 t.num,.string t.name,.slice A5 n5 c5]):=by rw [hWe];exact own_tail4 HOWN.out HXL.out
            replace HV5:Hid (TmVS (fun q=>ws≤q∧q≠g) We A5 c5 t):=HV5.out.keep (KeepS.of_only ho (by simp)) (fun _ _ h=>h);replace HS:=Hd (HS.out.aside ho (fun _ h=>h.2) HGJ.out hgR (HOWN.out.lt g rfl).1);replace HWS:Hid (ws≤We.heap.size):=Nat.le_trans HWS.out ho.size;clear HOWN;have HOWN:=Hd ho4;rw [←hWe];clear hWe ho ho4 Wc
            rename World=>Wc))
     | (refine step_append_lies _ (by rfl) _ _ _ (by rfl) B 64 i0 (.agg #[.int .i64 0,.int .i64 0,.string ⟨#[]⟩,.slice none 0 0]) 4 56 Tryz.underlying25 hi0 hz0 hz1 hz2 rfl (by decide) (.slice a nk cp) nk (X 5).flatten (by rfl) (by have h:=HS.out.own.own 5 (by omega) trivial;rw [HV.out,←HNK.out] at h;exact h) ⟨z,0,none⟩ 1 1 [.int .i64 0,.int .i64 0,.string ⟨#[]⟩,.slice none 0 0] (by rfl) (by rfl) (World.news_of_block HZ.out) (by simp [Value.oneCell']) (by decide) (by unfold maxLen;omega) (by omega) HS.out.big _ rfl ?_
        intro g cap We hown7 hgrow7 hat7 hlt7;refine hK.out _ _ trivial (fun _=>?_);clear hK K;(try simp only [Act.put,sAr,sZe,sSu]);have HGR:Hid (Wc.grownBy We (V 5).ownBlock):=by show World.grownBy _ _ _;rw [HV.out];exact hgrow7
        have HAT:Hid ((V 5).ownBlock=some g∨g=Wc.heap.size):=by show _∨_;rw [HV.out];exact hat7
        have HOWN:=Hd hown7
        have hgR:g≠R:=by
         rcases HAT.out with h | h
         · exact (HS.out.own.lt 5 (by omega) g h).2.2
         · have:=HS.out.rdr.lt;omega
        have HGJ:Hid (∀ j,j<8→j≠5→(V j).ownBlock≠some g):=fun j hj hne e=>by
         rcases HAT.out with h | h
         · exact HS.out.own.ap j 5 hj (by omega) hne g e h
         · have:=(HS.out.own.lt j hj g e).2.1;omega
        first
         | (have HV5:Hid (TmVS (fun q=>ws≤q∧q≠g) We A5 c5 t):=(HV0.out.keep (S':=fun q=>ws≤q∧q≠g) Kr (fun q hq h=>⟨h,by
             rcases HAT.out with h2 | h2
             · have:=HRW.out g h2;omega
             · omega⟩)).keep ⟨HGR.out.size,fun q hq hl=>HGR.out.block q hl (fun e=>by have:=HRW.out q e.symm;omega)⟩ (fun _ _ h=>h)
            clear HV0)
         | skip
        replace HWS:Hid (ws≤We.heap.size):=Nat.le_trans HWS.out HGR.out.size;replace HS:=Hd (HS.out.grown (k:=5) (by omega) HGR.out HAT.out);clear hown7 hgrow7 hat7 HGR HAT hlt7 HZ hzR Wc
        rename World=>Wc)
     | fail
    all_goals
     repeat
      (first | refine tkI 0 (v:=?_) rfl ?hy ?_ | refine tkI 1 (v:=?_) rfl ?hy ?_ | refine tkI 2 (v:=?_) rfl ?hy ?_ | refine tkI 4 (v:=?_) rfl ?hy ?_ | refine tkI 6 (v:=?_) rfl ?hy ?_ | refine tkI 9 (v:=?_) rfl ?hy ?_ | refine tkI 11 (v:=?_) rfl ?hy ?_ | refine tkI 12 (v:=?_) rfl ?hy ?_
       case hy=>
        intro w0 hS;clear hS;go_simp
        (first | done | with_reducible rfl)
       try simp only [Act.put,sAr,sZe,sSu])
   all_goals refine wpAnyH_done (by decide +kernel) ?_ _
   all_goals
    refine NoPanic.normal ?_
    first
     | (rw [HW9.out,swapO4 (Ne.symm hgR)]
        clear HW9 HOWNC;obtain ⟨We,hWe⟩:=ex_ ((((Wc.setCell ⟨g,nk*4,none⟩ (.int .i64 t.op)).setCell ⟨g,nk*4+1,none⟩ (.int .i64 t.num)).setCell ⟨g,nk*4+2,none⟩ (.string t.name)).setCell ⟨g,nk*4+3,none⟩ (.slice A5 n5 c5));have ho:Only (fun q=>q=g) Wc We:=by rw [hWe];exact onlyO4 _ _ _ _
        have ho4:We.ownsRow B 64 4 (.slice (some ⟨g,0,none⟩) (nk+1) cap) (nk+1) ((X 5).flatten++[.int .i64 t.op,.int .i64 t.num,.string t.name,.slice A5 n5 c5]):=by rw [hWe];exact own_tail4 HOWN.out HXL.out
        replace HV5:Hid (TmVS (fun q=>ws≤q∧q≠g) We A5 c5 t):=HV5.out.keep (KeepS.of_only ho (by simp)) (fun _ _ h=>h);replace HS:=Hd (HS.out.aside ho (fun _ h=>h.2) HGJ.out hgR (HOWN.out.lt g rfl).1);replace HWS:Hid (ws≤We.heap.size):=Nat.le_trans HWS.out ho.size;clear HOWN;have HOWN:=Hd ho4;rw [←hWe];clear hWe ho ho4 Wc
        rename World=>Wc)
     | skip
    have hop:=HS.out.own.put (k:=5) (w':=Wc.setCell ⟨R,8,none⟩ (.slice (some ⟨g,0,none⟩) (nk+1) cap)) (e:=(elS l 5 (i+1)).1) (by omega) HOWN.out (by rw [HNK.out]) hgR HGJ.out (fun _ h=>h.2) (S0:=fun q=>ws≤q∧q≠g) (by
     rw [HE.out]
     exact ⟨A5,c5,by rw [HN5.out],HV5.out⟩) (fun q _ h=>⟨by have:=HBS.out;omega,by have:=HRS.out;omega,h.2,fun j hj e=>by have:=HRA.out j hj q e;omega⟩) (setAt _)
    have hrp:=HS.out.rdr.put (k:=5) (by omega) (.slice (some ⟨g,0,none⟩) (nk+1) cap);have hbl:Below B w (Wc.setCell ⟨R,8,none⟩ (.slice (some ⟨g,0,none⟩) (nk+1) cap)):=HS.out.bel.setCell hBR _;have hbg:=HS.out.big;obtain ⟨WF,hWF⟩:=ex_ (Wc.setCell ⟨R,8,none⟩ (.slice (some ⟨g,0,none⟩) (nk+1) cap));have hsF:WF.heap.size=Wc.heap.size:=by rw [hWF];simp
    simp only [Nat.reduceAdd] at hrp;rw [←hWF] at hop hrp hbl ⊢;have HOP:=Hd hop;have HRP:=Hd hrp;have HBL:=Hd hbl;clear hop hrp hbl hWF;go_wp2_with fail;exact decl_door HF.out HRP.out HOP.out HBL.out (HP.out.below HBL.out HA.out) hBR (by omega) (fun h=>by have:=HJL.out h;have:=HN.out;omega) _ (by first | exact Or.inl rfl | exact Or.inr rfl)
 · rw [iN hlt,iN hlt] at hg;rw [iN hlt,iN hlt] at HF;have hs1:=hg.2.2;have hm:mustS l 4 [59] i 18=(i,18):=rfl;rw [←hm] at HF;have HS1:Hid (DS w B R (some ⟨b,off,none⟩) l.length c V X G i 18 (fun _=>True) (SOf B R V) w1):=⟨hg.1,HM.out.move (fun q _ hl hR=>hg.2.1.block q hl hR) (Nat.le_of_eq hs1.symm),only_belowB (w:=w) ⟨hg.2.1.os,hg.2.1.tape,hg.2.1.output,Nat.le_of_eq hs1.symm,hg.2.1.block⟩ hBR hBw,hBR,by rw [hs1];exact hBw⟩;rw [dF hlt];clear hg hm c0 c1 x0 x2 hcm HMO HT0 hs1;go_wp2_with fail;exact decl_door HF.out HS1.out.rdr HS1.out.own HS1.out.bel (HP.out.below HS1.out.bel HA.out) hBR HS1.out.big (fun _=>by omega) _ (by first | exact Or.inl rfl | exact Or.inr rfl)
theorem tLMtHd {o:Array Oper} {i:Nat} {x:Oper} (h:o.toList[i]?=some x):o[i]?=some x:=by simpa using h
theorem mdecl6_any (R:Nat) (A:Option Addr) (c i B:Nat) (l:List Tok) (V:Nat→Value) (X:Nat→List (List Value)) (G:Nat→List El) (w:World) (hw:isTk l i 3 (wordOf 6)=true) (hR:MRd w R A l.length c i 0 V) (hP:PTok w R A c l) (hM:MAll w B R V X G) (hBR:B≤R) (hA:∀ a,A=some a→a.block<B) (hG:(G 6).length≤64) :
 Calls Tryz.prog 15 #[.pointer (some ⟨R,0,none⟩)] w (DPost R A c l B w (if (G 6).length<64 then mustS l 4 [59] (elS l 6 (i+1)).2.1 (elS l 6 (i+1)).2.2 else (i,18)) (if (G 6).length<64 then upd G 6 (G 6++[(elS l 6 (i+1)).1]) else G)):=by
 obtain ⟨F,HF⟩:=exh_ (DPost R A c l B w (if (G 6).length<64 then mustS l 4 [59] (elS l 6 (i+1)).2.1 (elS l 6 (i+1)).2.2 else (i,18)) (if (G 6).length<64 then upd G 6 (G 6++[(elS l 6 (i+1)).1]) else G));rw [←HF.out];have hlen:=hP.len;have hcap:=hP.cap;have hcapm:=hP.capm;unfold maxLen at hcapm;have HP:=Hd hP;obtain ⟨b,off,hAb,hbR,hbw,hin,x0,x2⟩:=tk_cells hP hw;obtain ⟨a,cp,hV,hcp,hcpm⟩:=hM.shape (k:=6) (by omega);obtain ⟨nk,HNK⟩:=exh_ (G 6).length;rw [←HNK.out] at hV hcp hG HF;have hcm:=hR.cm (k:=6) (by omega);rw [hV] at hcm;have HV:=Hd hV;have HR:=Hd hR;have HM:=Hd hM;have c0:=hR.c0;have c1:=hR.c1;have hRlt:=hR.lt;have hBw:B≤w.heap.size:=by omega
 have hl0:0<l.length:=by omega
 have HT0:Hid (∀ W,MRd W R A l.length c (i+1) 0 V→Below B w W→Calls Tryz.prog 42 #[.pointer (some ⟨R,0,none⟩)] W (fun e w'=>(∃ A5 c5,e=.returned ((termS l (i+1) 0).1.val A5 c5)∧TmVS (fun q=>W.heap.size≤q) w' A5 c5 (termS l (i+1) 0).1)∧MFin R A l.length c V (termS l (i+1) 0).2.1 (termS l (i+1) 0).2.2 W w')):=fun W hr hb=>mterm_any R A c (i+1) l 0 V W hr (HP.out.below hb hA) (by omega) hl0;have HMO:=Hd (fun m=>mmore_any R A l.length c i nk V (w.drewN m) hR (by omega) (by omega));obtain ⟨n,HN⟩:=exh_ l.length;rw [←HN.out] at c0 hcap hin hlen;have hk0:(0:Int)≤(i:Int):=by omega
 have hk1:(i:Int)<(n:Int):=by omega
 have HA:=Hd hA;subst hAb;clear hA hV hR hP hM hw;simp only [wordOf,wFair,Nat.reduceAdd] at x2 hcm
 go_enter_defers Tryz.func15,Tryz.ntmps15
 go_wp2_with fail
 go_quiet (fail)
 go_wp2_with fail
 go_quiet (fail)
 go_wp2_with fail;refine (HMO.out _).mono ?_;rintro e w1 ⟨rfl,hg⟩
 by_cases hlt:nk<64
 · rw [iP hlt,iP hlt] at hg;rw [iP hlt,iP hlt] at HF;have hdt:decide (nk<64)=true:=decide_eq_true hlt;have hs1:=hg.2.2;have HS1:Hid (DS w B R (some ⟨b,off,none⟩) l.length c V X G (i+1) 0 (fun _=>True) (SOf B R V) w1):=⟨hg.1,HM.out.move (fun q _ hl hR=>hg.2.1.block q hl hR) (Nat.le_of_eq hs1.symm),only_belowB (w:=w) ⟨hg.2.1.os,hg.2.1.tape,hg.2.1.output,Nat.le_of_eq hs1.symm,hg.2.1.block⟩ hBR hBw,hBR,by rw [hs1];exact hBw⟩;clear hg;obtain ⟨i0,hi0,hz0,hz1,hz2⟩:=info_parts infoTm;have HE0:Hid (elS l 6 (i+1)=(.fair (termS l (i+1) 0).1,(termS l (i+1) 0).2)):=rfl;have HJ0:Hid ((termS l (i+1) 0).2.2=0→(termS l (i+1) 0).2.1≤l.length):=termS_ok
   generalize termS l (i+1) 0=tt at HT0 HE0 HJ0
   obtain ⟨t,j,y⟩:=tt;simp only at HT0 HE0 HJ0;have HE:Hid ((elS l 6 (i+1)).1=.fair t):=by show _=_;rw [HE0.out]
   have HE2:Hid ((elS l 6 (i+1)).2=(j,y)):=by show _=_;rw [HE0.out]
   rw [HE2.out] at HF;simp only at HF;have HJL:=HJ0;clear HE0 HE2 HJ0;rw [hdt];clear hdt;go_wp2_with fail;refine wp_region_noPanic ?_;refine wp_region_held_drew (S:=fun _=>True) (by kernel_rfl) trivial (fun _=>?_);have hT:True:=trivial;have hkk0:(0:Int)≤(nk:Int):=by omega
   have hkk1:(nk:Int)<(nk:Int)+1:=by omega
   obtain ⟨Wc,hWc⟩:=ex_ w1.drew;have HS:Hid (DS w B R (some ⟨b,off,none⟩) l.length c V X G (i+1) 0 (fun _=>True) (SOf B R V) Wc):=by show DS _ _ _ _ _ _ _ _ _ _ _ _ _ _;rw [hWc];exact HS1.out.only (HS1.out.rdr.drewN 1) (Only.refl.drewN 1)
   obtain ⟨ws,hws⟩:=ex_ w1.heap.size;have HWS:Hid (ws≤Wc.heap.size):=by show _≤_;rw [hws,hWc];exact lr _
   have HRW:Hid (∀ q,(V 6).ownBlock=some q→q<ws):=fun q hq=>by rw [hws];exact (HS1.out.own.lt 6 (by omega) q hq).2.1
   have HRA:Hid (∀ j,j<8→∀ q,(V j).ownBlock=some q→q<ws):=fun j hj q hq=>by rw [hws];exact (HS1.out.own.lt j hj q hq).2.1
   have HBS:Hid (B≤ws):=by show _≤_;rw [hws];exact HS1.out.big
   have HRS:Hid (R<ws):=by show _<_;rw [hws];exact HS1.out.rdr.lt
   have HT:=HT0;rw [←hWc];clear hWc hws HS1 HT0 c0 c1 x0 x2 hcm HMO hs1
   repeat
    (first | refine tkI 0 (v:=?_) rfl ?hy ?_ | refine tkI 1 (v:=?_) rfl ?hy ?_ | refine tkI 2 (v:=?_) rfl ?hy ?_ | refine tkI 4 (v:=?_) rfl ?hy ?_ | refine tkI 6 (v:=?_) rfl ?hy ?_ | refine tkI 9 (v:=?_) rfl ?hy ?_ | refine tkI 11 (v:=?_) rfl ?hy ?_ | refine tkI 12 (v:=?_) rfl ?hy ?_
     case hy=>
      intro w0 hS;clear hS;go_simp
      (first | done | with_reducible rfl)
     try simp only [Act.put,sAr,sZe,sSu])
   iterate 6
    all_goals first
     | refine Rd (rs:=[3,5,7]) (by decide +kernel) (by simp) (Rc (tLMtHd rfl) (fun K hK=>?_) (Rc (tLMtHd rfl) (fun K hK=>?_) (Rc (tLMtHd rfl) (fun K hK=>?_) Rn)))
     | refine Rd (rs:=[5,7]) (by decide +kernel) (by simp) (Rc (tLMtHd rfl) (fun K hK=>?_) (Rc (tLMtHd rfl) (fun K hK=>?_) Rn))
     | refine Rd (rs:=[3,7]) (by decide +kernel) (by simp) (Rc (tLMtHd rfl) (fun K hK=>?_) (Rc (tLMtHd rfl) (fun K hK=>?_) Rn))
     | refine Rd (rs:=[3,5]) (by decide +kernel) (by simp) (Rc (tLMtHd rfl) (fun K hK=>?_) (Rc (tLMtHd rfl) (fun K hK=>?_) Rn))
     | refine Rd (rs:=[10,13]) (by decide +kernel) (by simp) (Rc (tLMtHd rfl) (fun K hK=>?_) (Rc (tLMtHd rfl) (fun K hK=>?_) Rn))
     | refine Rd (rs:=[7]) (by decide +kernel) (by simp) (Rc (tLMtHd rfl) (fun K hK=>?_) Rn)
     | refine Rd (rs:=[5]) (by decide +kernel) (by simp) (Rc (tLMtHd rfl) (fun K hK=>?_) Rn)
     | refine Rd (rs:=[3]) (by decide +kernel) (by simp) (Rc (tLMtHd rfl) (fun K hK=>?_) Rn)
     | refine Rd (rs:=[8]) (by decide +kernel) (by simp) (Rc (tLMtHd rfl) (fun K hK=>?_) Rn)
     | refine Rd (rs:=[13]) (by decide +kernel) (by simp) (Rc (tLMtHd rfl) (fun K hK=>?_) Rn)
     | refine Rd (rs:=[10]) (by decide +kernel) (by simp) (Rc (tLMtHd rfl) (fun K hK=>?_) Rn)
     | fail
    all_goals first
     | (refine isLd ?_
        have y3:=HS.out.rdr.cm (k:=6) (by omega);rw [HV.out] at y3;simp only [Nat.reduceAdd] at y3;go_simp;clear y3;refine hK.out _ Wc trivial (fun _=>?_);clear hK K
        try simp only [Act.put,sAr,sZe,sSu])
     | (refine isCl ?_
        go_simp;(with_reducible refine (HT.out _ HS.out.rdr HS.out.bel).mono ?_);rintro e We ⟨⟨A5,c5,rfl,hv5⟩,hg5⟩;simp only [Tm.val];obtain ⟨n5,HN5⟩:=exh_ t.kids.length;rw [←HN5.out];refine hK.out _ _ trivial (fun _=>?_);clear hK K;(try simp only [Act.put,sAr,sZe,sSu]);have hs5:=hg5.2.size
        first
         | (have HV5:Hid (TmVS (fun q=>ws≤q∧q≠g) We A5 c5 t):=hv5.keep Kr (fun q _ h=>by have:=(HOWN.out.lt g rfl).2;have:=HWS.out;omega)
            have ho7:=own_at HOWN.out (fun q hq=>hg5.2.block q (HOWN.out.lt q hq).2 (fun e=>by have e2:g=q:=(by simpa [Value.ownBlock] using hq);omega));clear HOWN;have HOWN:=Hd ho7
            clear ho7)
         | (have HV0:Hid (TmVS (fun q=>ws≤q) We A5 c5 t):=hv5.keep Kr (fun q _ h=>by have:=HWS.out;omega))
        first
         | (have hz2:=(hg5.2.block z (lH HZ.out) hzR).trans HZ.out
            clear HZ;have HZ:=Hd hz2
            clear hz2)
         | skip
        replace HS:=Hd (HS.out.only hg5.1 hg5.2);replace HWS:Hid (ws≤We.heap.size):=Nat.le_trans HWS.out hs5;clear hv5 hg5 hs5 Wc
        rename World=>Wc)
     | (refine isBs ?_
        go_simp;refine hK.out _ (Wc.alloc (.cells #[.int .i64 0,.int .i64 0,.string ⟨#[]⟩,.slice none 0 0] 64)) trivial (fun _=>?_);clear hK K;(try simp only [Act.put,sAr,sZe,sSu]);obtain ⟨z,hz⟩:=ex_ Wc.heap.size;obtain ⟨We,hV⟩:=ex_ (Wc.alloc (.cells #[.int .i64 0,.int .i64 0,.string ⟨#[]⟩,.slice none 0 0] 64));have hzR:z≠R:=by have:=HS.out.rdr.lt;omega
        have hb5:=bAl hV;have HZ:=nAl hV hz
        first
         | (have hv2:=HV0.out.keep (Kb hb5) (fun _ _ h=>h)
            clear HV0;have HV0:=Hd hv2
            clear hv2)
         | skip
        replace HS:=Hd (HS.out.below hb5);replace HWS:Hid (ws≤We.heap.size):=Nat.le_trans HWS.out hb5.size;rw [←hV,←hz];clear hV hz hb5 Wc
        rename World=>Wc)
     | (refine isSt ?_
        have y3:=HS.out.rdr.cm (k:=6) (by omega);have f3:=HS.out.rdr.frozen (3+6);have hRl9:=HS.out.rdr.lt;simp only [Nat.reduceAdd] at y3 f3;go_simp;clear y3 f3 hRl9;refine hK.out _ _ trivial (fun _=>?_);clear hK K;(try simp only [Act.put,sAr,sZe,sSu]);obtain ⟨D13,-⟩:∃ n:Nat,n=n:=⟨0,rfl⟩
        first
         | have:=D10
         | (obtain ⟨W9,hW9⟩:=ex_ (Wc.setCell ⟨R,9,none⟩ (.slice (some ⟨g,0,none⟩) (nk+1) cap))
            have HOWNC:=Hd (own_at (w':=W9) HOWN.out (fun q hq=>by rw [hW9];exact hO_ Wc ⟨R,9,none⟩ q _ (by have e2:g=q:=(by simpa [Value.ownBlock] using hq);show q≠R;omega)));rw [←hW9];have HW9:=Hd hW9
            clear hW9))
     | (refine isSt ?_
        have HXL:Hid ((X 6).flatten.length=nk*4):=by
         have h:=HOWN.out.1;simp only [List.length_append,List.length_cons,List.length_nil] at h;show _=_;omega
        first
         | (obtain ⟨y0,y1,y2,y3,yz⟩:=own_cell4 HOWNC.out HXL.out
            have hgl:=(HOWNC.out.lt g rfl).2)
         | (obtain ⟨y0,y1,y2,y3,yz⟩:=own_cell4 HOWN.out HXL.out
            have hgl:=(HOWN.out.lt g rfl).2)
        go_simp;clear y0 y1 y2 y3 yz hgl;refine hK.out _ _ trivial (fun _=>?_);clear hK K;(try simp only [Act.put,sAr,sZe,sSu]);obtain ⟨D10,-⟩:∃ n:Nat,n=n:=⟨0,rfl⟩
        first
         | have:=D13
         | (obtain ⟨We,hWe⟩:=ex_ ((((Wc.setCell ⟨g,nk*4,none⟩ (.int .i64 t.op)).setCell ⟨g,nk*4+1,none⟩ (.int .i64 t.num)).setCell ⟨g,nk*4+2,none⟩ (.string t.name)).setCell ⟨g,nk*4+3,none⟩ (.slice A5 n5 c5))
            have ho:Only (fun q=>q=g) Wc We:=by rw [hWe];exact onlyO4 _ _ _ _
            have ho4:We.ownsRow B 64 4 (.slice (some ⟨g,0,none⟩) (nk+1) cap) (nk+1) ((X 6).flatten++[.int .i64 t.op,.int .i64 t.num,.string t.name,.slice A5 n5 c5]):=by rw [hWe];exact own_tail4 HOWN.out HXL.out
            replace HV5:Hid (TmVS (fun q=>ws≤q∧q≠g) We A5 c5 t):=HV5.out.keep (KeepS.of_only ho (by simp)) (fun _ _ h=>h);replace HS:=Hd (HS.out.aside ho (fun _ h=>h.2) HGJ.out hgR (HOWN.out.lt g rfl).1);replace HWS:Hid (ws≤We.heap.size):=Nat.le_trans HWS.out ho.size;clear HOWN;have HOWN:=Hd ho4;rw [←hWe];clear hWe ho ho4 Wc
            rename World=>Wc))
     | (refine step_append_lies _ (by rfl) _ _ _ (by rfl) B 64 i0 (.agg #[.int .i64 0,.int .i64 0,.string ⟨#[]⟩,.slice none 0 0]) 4 56 Tryz.underlying25 hi0 hz0 hz1 hz2 rfl (by decide) (.slice a nk cp) nk (X 6).flatten (by rfl) (by have h:=HS.out.own.own 6 (by omega) trivial;rw [HV.out,←HNK.out] at h;exact h) ⟨z,0,none⟩ 1 1 [.int .i64 0,.int .i64 0,.string ⟨#[]⟩,.slice none 0 0] (by rfl) (by rfl) (World.news_of_block HZ.out) (by simp [Value.oneCell']) (by decide) (by unfold maxLen;omega) (by omega) HS.out.big _ rfl ?_
        intro g cap We hown7 hgrow7 hat7 hlt7;refine hK.out _ _ trivial (fun _=>?_);clear hK K;(try simp only [Act.put,sAr,sZe,sSu]);have HGR:Hid (Wc.grownBy We (V 6).ownBlock):=by show World.grownBy _ _ _;rw [HV.out];exact hgrow7
        have HAT:Hid ((V 6).ownBlock=some g∨g=Wc.heap.size):=by show _∨_;rw [HV.out];exact hat7
        have HOWN:=Hd hown7
        have hgR:g≠R:=by
         rcases HAT.out with h | h
         · exact (HS.out.own.lt 6 (by omega) g h).2.2
         · have:=HS.out.rdr.lt;omega
        have HGJ:Hid (∀ j,j<8→j≠6→(V j).ownBlock≠some g):=fun j hj hne e=>by
         rcases HAT.out with h | h
         · exact HS.out.own.ap j 6 hj (by omega) hne g e h
         · have:=(HS.out.own.lt j hj g e).2.1;omega
        first
         | (have HV5:Hid (TmVS (fun q=>ws≤q∧q≠g) We A5 c5 t):=(HV0.out.keep (S':=fun q=>ws≤q∧q≠g) Kr (fun q hq h=>⟨h,by
             rcases HAT.out with h2 | h2
             · have:=HRW.out g h2;omega
             · omega⟩)).keep ⟨HGR.out.size,fun q hq hl=>HGR.out.block q hl (fun e=>by have:=HRW.out q e.symm;omega)⟩ (fun _ _ h=>h)
            clear HV0)
         | skip
        replace HWS:Hid (ws≤We.heap.size):=Nat.le_trans HWS.out HGR.out.size;replace HS:=Hd (HS.out.grown (k:=6) (by omega) HGR.out HAT.out);clear hown7 hgrow7 hat7 HGR HAT hlt7 HZ hzR Wc
        rename World=>Wc)
     | fail
    all_goals
     repeat
      (first | refine tkI 0 (v:=?_) rfl ?hy ?_ | refine tkI 1 (v:=?_) rfl ?hy ?_ | refine tkI 2 (v:=?_) rfl ?hy ?_ | refine tkI 4 (v:=?_) rfl ?hy ?_ | refine tkI 6 (v:=?_) rfl ?hy ?_ | refine tkI 9 (v:=?_) rfl ?hy ?_ | refine tkI 11 (v:=?_) rfl ?hy ?_ | refine tkI 12 (v:=?_) rfl ?hy ?_
       case hy=>
        intro w0 hS;clear hS;go_simp
        (first | done | with_reducible rfl)
       try simp only [Act.put,sAr,sZe,sSu])
   all_goals refine wpAnyH_done (by decide +kernel) ?_ _
   all_goals
    refine NoPanic.normal ?_
    first
     | (rw [HW9.out,swapO4 (Ne.symm hgR)]
        clear HW9 HOWNC;obtain ⟨We,hWe⟩:=ex_ ((((Wc.setCell ⟨g,nk*4,none⟩ (.int .i64 t.op)).setCell ⟨g,nk*4+1,none⟩ (.int .i64 t.num)).setCell ⟨g,nk*4+2,none⟩ (.string t.name)).setCell ⟨g,nk*4+3,none⟩ (.slice A5 n5 c5));have ho:Only (fun q=>q=g) Wc We:=by rw [hWe];exact onlyO4 _ _ _ _
        have ho4:We.ownsRow B 64 4 (.slice (some ⟨g,0,none⟩) (nk+1) cap) (nk+1) ((X 6).flatten++[.int .i64 t.op,.int .i64 t.num,.string t.name,.slice A5 n5 c5]):=by rw [hWe];exact own_tail4 HOWN.out HXL.out
        replace HV5:Hid (TmVS (fun q=>ws≤q∧q≠g) We A5 c5 t):=HV5.out.keep (KeepS.of_only ho (by simp)) (fun _ _ h=>h);replace HS:=Hd (HS.out.aside ho (fun _ h=>h.2) HGJ.out hgR (HOWN.out.lt g rfl).1);replace HWS:Hid (ws≤We.heap.size):=Nat.le_trans HWS.out ho.size;clear HOWN;have HOWN:=Hd ho4;rw [←hWe];clear hWe ho ho4 Wc
        rename World=>Wc)
     | skip
    have hop:=HS.out.own.put (k:=6) (w':=Wc.setCell ⟨R,9,none⟩ (.slice (some ⟨g,0,none⟩) (nk+1) cap)) (e:=(elS l 6 (i+1)).1) (by omega) HOWN.out (by rw [HNK.out]) hgR HGJ.out (fun _ h=>h.2) (S0:=fun q=>ws≤q∧q≠g) (by
     rw [HE.out]
     exact ⟨A5,c5,by rw [HN5.out],HV5.out⟩) (fun q _ h=>⟨by have:=HBS.out;omega,by have:=HRS.out;omega,h.2,fun j hj e=>by have:=HRA.out j hj q e;omega⟩) (setAt _)
    have hrp:=HS.out.rdr.put (k:=6) (by omega) (.slice (some ⟨g,0,none⟩) (nk+1) cap);have hbl:Below B w (Wc.setCell ⟨R,9,none⟩ (.slice (some ⟨g,0,none⟩) (nk+1) cap)):=HS.out.bel.setCell hBR _;have hbg:=HS.out.big;obtain ⟨WF,hWF⟩:=ex_ (Wc.setCell ⟨R,9,none⟩ (.slice (some ⟨g,0,none⟩) (nk+1) cap));have hsF:WF.heap.size=Wc.heap.size:=by rw [hWF];simp
    simp only [Nat.reduceAdd] at hrp;rw [←hWF] at hop hrp hbl ⊢;have HOP:=Hd hop;have HRP:=Hd hrp;have HBL:=Hd hbl;clear hop hrp hbl hWF;go_wp2_with fail;exact decl_door HF.out HRP.out HOP.out HBL.out (HP.out.below HBL.out HA.out) hBR (by omega) (fun h=>by have:=HJL.out h;have:=HN.out;omega) _ (by first | exact Or.inl rfl | exact Or.inr rfl)
 · rw [iN hlt,iN hlt] at hg;rw [iN hlt,iN hlt] at HF;have hs1:=hg.2.2;have hm:mustS l 4 [59] i 18=(i,18):=rfl;rw [←hm] at HF;have HS1:Hid (DS w B R (some ⟨b,off,none⟩) l.length c V X G i 18 (fun _=>True) (SOf B R V) w1):=⟨hg.1,HM.out.move (fun q _ hl hR=>hg.2.1.block q hl hR) (Nat.le_of_eq hs1.symm),only_belowB (w:=w) ⟨hg.2.1.os,hg.2.1.tape,hg.2.1.output,Nat.le_of_eq hs1.symm,hg.2.1.block⟩ hBR hBw,hBR,by rw [hs1];exact hBw⟩;rw [dF hlt];clear hg hm c0 c1 x0 x2 hcm HMO HT0 hs1;go_wp2_with fail;exact decl_door HF.out HS1.out.rdr HS1.out.own HS1.out.bel (HP.out.below HS1.out.bel HA.out) hBR HS1.out.big (fun _=>by omega) _ (by first | exact Or.inl rfl | exact Or.inr rfl)
theorem tLMtI {o:Array Oper} {i:Nat} {x:Oper} (h:o.toList[i]?=some x):o[i]?=some x:=by simpa using h
theorem infoVr:(Tryz.prog.info? 45).map (fun i=>(i.zero,i.size,i.bytes))=some (some (.agg #[.string ⟨#[]⟩,.bool false,.int .i64 0,.int .i64 0]),4,40):=by kernel_rfl
theorem varS_ok {l:List Tok} {i:Nat} {x:Int} (h0:i≤l.length) (h:(varS l i x).2.2=0):(varS l i x).2.1≤l.length:=by
 have h1:=nameS_le (x:=x) h0;have h2:=mustS_le (l:=l) (k:=4) (s:=[58]) (x:=(nameS l i x).2.2) h1;unfold varS
 dsimp only
 split
 · rename_i hb
   have:=isTk_ltM hb.2;show _+1≤_;omega
 · exact nuS_le (mustS_le (nuS_le h2))
theorem mdecl0_any (R:Nat) (A:Option Addr) (c i B:Nat) (l:List Tok) (V:Nat→Value) (X:Nat→List (List Value)) (G:Nat→List El) (w:World) (hw:isTk l i 3 (wordOf 0)=true) (hR:MRd w R A l.length c i 0 V) (hP:PTok w R A c l) (hM:MAll w B R V X G) (hBR:B≤R) (hA:∀ a,A=some a→a.block<B) (hG:(G 0).length≤64) :
 Calls Tryz.prog 15 #[.pointer (some ⟨R,0,none⟩)] w (DPost R A c l B w (if (G 0).length<64 then mustS l 4 [59] (elS l 0 (i+1)).2.1 (elS l 0 (i+1)).2.2 else (i,18)) (if (G 0).length<64 then upd G 0 (G 0++[(elS l 0 (i+1)).1]) else G)):=by
 obtain ⟨F,HF⟩:=exh_ (DPost R A c l B w (if (G 0).length<64 then mustS l 4 [59] (elS l 0 (i+1)).2.1 (elS l 0 (i+1)).2.2 else (i,18)) (if (G 0).length<64 then upd G 0 (G 0++[(elS l 0 (i+1)).1]) else G));rw [←HF.out];have hlen:=hP.len;have hcap:=hP.cap;have hcapm:=hP.capm;unfold maxLen at hcapm;have HP:=Hd hP;obtain ⟨b,off,hAb,hbR,hbw,hin,x0,x2⟩:=tk_cells hP hw;obtain ⟨a,cp,hV,hcp,hcpm⟩:=hM.shape (k:=0) (by omega);obtain ⟨nk,HNK⟩:=exh_ (G 0).length;rw [←HNK.out] at hV hcp hG HF;have hcm:=hR.cm (k:=0) (by omega);rw [hV] at hcm;have HV:=Hd hV;have HR:=Hd hR;have HM:=Hd hM;have c0:=hR.c0;have c1:=hR.c1;have hRlt:=hR.lt;have hBw:B≤w.heap.size:=by omega
 have hl0:0<l.length:=by omega
 have HT0:Hid (∀ W,MRd W R A l.length c (i+1) 0 V→Below B w W→Calls Tryz.prog 40 #[.pointer (some ⟨R,0,none⟩)] W (fun e w'=>e=.returned (.agg #[.string (varS l (i+1) 0).1.1,.bool (varS l (i+1) 0).1.2.1,.int .i64 (varS l (i+1) 0).1.2.2.1,.int .i64 (varS l (i+1) 0).1.2.2.2])∧MFin R A l.length c V (varS l (i+1) 0).2.1 (varS l (i+1) 0).2.2 W w')):=fun W hr hb=>mvar_any R A c (i+1) l 0 V W hr (HP.out.below hb hA) (by omega);have HMO:=Hd (fun m=>mmore_any R A l.length c i nk V (w.drewN m) hR (by omega) (by omega));obtain ⟨n,HN⟩:=exh_ l.length;rw [←HN.out] at c0 hcap hin hlen;have hk0:(0:Int)≤(i:Int):=by omega
 have hk1:(i:Int)<(n:Int):=by omega
 have HA:=Hd hA;subst hAb;clear hA hV hR hP hM hw;simp only [wordOf,wVar,Nat.reduceAdd] at x2 hcm
 go_enter_defers Tryz.func15,Tryz.ntmps15
 go_wp2_with fail
 go_quiet (fail)
 go_wp2_with fail
 go_quiet (fail)
 go_wp2_with fail;refine (HMO.out _).mono ?_;rintro e w1 ⟨rfl,hg⟩
 by_cases hlt:nk<64
 · rw [iP hlt,iP hlt] at hg;rw [iP hlt,iP hlt] at HF;have hdt:decide (nk<64)=true:=decide_eq_true hlt;have hs1:=hg.2.2;have HS1:Hid (DS w B R (some ⟨b,off,none⟩) l.length c V X G (i+1) 0 (fun _=>True) (SOf B R V) w1):=⟨hg.1,HM.out.move (fun q _ hl hR=>hg.2.1.block q hl hR) (Nat.le_of_eq hs1.symm),only_belowB (w:=w) ⟨hg.2.1.os,hg.2.1.tape,hg.2.1.output,Nat.le_of_eq hs1.symm,hg.2.1.block⟩ hBR hBw,hBR,by rw [hs1];exact hBw⟩;clear hg;obtain ⟨i0,hi0,hz0,hz1,hz2⟩:=info_parts infoVr;have HE0:Hid (elS l 0 (i+1)=(.var ⟨(varS l (i+1) 0).1.1,(varS l (i+1) 0).1.2.1,(varS l (i+1) 0).1.2.2.1,(varS l (i+1) 0).1.2.2.2⟩,(varS l (i+1) 0).2)):=rfl;have HJ0:Hid ((varS l (i+1) 0).2.2=0→(varS l (i+1) 0).2.1≤l.length):=varS_ok (by have:=HN.out;omega)
   generalize varS l (i+1) 0=tt at HT0 HE0 HJ0
   obtain ⟨⟨s,bo,lo,hh⟩,j,y⟩:=tt;simp only at HT0 HE0 HJ0;have HE:Hid ((elS l 0 (i+1)).1=.var ⟨s,bo,lo,hh⟩):=by show _=_;rw [HE0.out]
   have HE2:Hid ((elS l 0 (i+1)).2=(j,y)):=by show _=_;rw [HE0.out]
   rw [HE2.out] at HF;simp only at HF;have HJL:=HJ0;clear HE0 HE2 HJ0;rw [hdt];clear hdt;go_wp2_with fail;refine wp_region_noPanic ?_;refine wp_region_held_drew (S:=fun _=>True) (by kernel_rfl) trivial (fun _=>?_);have hT:True:=trivial;have hkk0:(0:Int)≤(nk:Int):=by omega
   have hkk1:(nk:Int)<(nk:Int)+1:=by omega
   obtain ⟨Wc,hWc⟩:=ex_ w1.drew;have HS:Hid (DS w B R (some ⟨b,off,none⟩) l.length c V X G (i+1) 0 (fun _=>True) (SOf B R V) Wc):=by show DS _ _ _ _ _ _ _ _ _ _ _ _ _ _;rw [hWc];exact HS1.out.only (HS1.out.rdr.drewN 1) (Only.refl.drewN 1)
   obtain ⟨ws,hws⟩:=ex_ w1.heap.size;have HWS:Hid (ws≤Wc.heap.size):=by show _≤_;rw [hws,hWc];exact lr _
   have HRW:Hid (∀ q,(V 0).ownBlock=some q→q<ws):=fun q hq=>by rw [hws];exact (HS1.out.own.lt 0 (by omega) q hq).2.1
   have HRA:Hid (∀ j,j<8→∀ q,(V j).ownBlock=some q→q<ws):=fun j hj q hq=>by rw [hws];exact (HS1.out.own.lt j hj q hq).2.1
   have HBS:Hid (B≤ws):=by show _≤_;rw [hws];exact HS1.out.big
   have HRS:Hid (R<ws):=by show _<_;rw [hws];exact HS1.out.rdr.lt
   have HT:=HT0;rw [←hWc];clear hWc hws HS1 HT0 c0 c1 x0 x2 hcm HMO hs1
   repeat
    (first | refine tkI 0 (v:=?_) rfl ?hy ?_ | refine tkI 1 (v:=?_) rfl ?hy ?_ | refine tkI 2 (v:=?_) rfl ?hy ?_ | refine tkI 3 (v:=?_) rfl ?hy ?_ | refine tkI 5 (v:=?_) rfl ?hy ?_ | refine tkI 9 (v:=?_) rfl ?hy ?_ | refine tkI 10 (v:=?_) rfl ?hy ?_
     case hy=>
      intro w0 hS;clear hS;go_simp
      (first | done | with_reducible rfl)
     try simp only [Act.put,sAr,sZe,sSu])
   iterate 5
    all_goals first
     | refine Rd (rs:=[4,6]) (by decide +kernel) (by simp) (Rc (tLMtI rfl) (fun K hK=>?_) (Rc (tLMtI rfl) (fun K hK=>?_) Rn))
     | refine Rd (rs:=[4,7]) (by decide +kernel) (by simp) (Rc (tLMtI rfl) (fun K hK=>?_) (Rc (tLMtI rfl) (fun K hK=>?_) Rn))
     | refine Rd (rs:=[6]) (by decide +kernel) (by simp) (Rc (tLMtI rfl) (fun K hK=>?_) Rn)
     | refine Rd (rs:=[7]) (by decide +kernel) (by simp) (Rc (tLMtI rfl) (fun K hK=>?_) Rn)
     | refine Rd (rs:=[4]) (by decide +kernel) (by simp) (Rc (tLMtI rfl) (fun K hK=>?_) Rn)
     | refine Rd (rs:=[8]) (by decide +kernel) (by simp) (Rc (tLMtI rfl) (fun K hK=>?_) Rn)
     | refine Rd (rs:=[11]) (by decide +kernel) (by simp) (Rc (tLMtI rfl) (fun K hK=>?_) Rn)
     | fail
    all_goals first
     | (refine isLd ?_
        have y3:=HS.out.rdr.cm (k:=0) (by omega);rw [HV.out] at y3;simp only [Nat.reduceAdd] at y3;go_simp;clear y3;refine hK.out _ Wc trivial (fun _=>?_);clear hK K
        try simp only [Act.put,sAr,sZe,sSu])
     | (refine isCl ?_
        go_simp;(with_reducible refine (HT.out _ HS.out.rdr HS.out.bel).mono ?_);rintro e We ⟨rfl,hg5⟩;refine hK.out _ _ trivial (fun _=>?_);clear hK K;(try simp only [Act.put,sAr,sZe,sSu]);have hs5:=hg5.2.size;replace HS:=Hd (HS.out.only hg5.1 hg5.2);replace HWS:Hid (ws≤We.heap.size):=Nat.le_trans HWS.out hs5;clear hg5 hs5 Wc
        rename World=>Wc)
     | (refine isBs ?_
        go_simp;refine hK.out _ (Wc.alloc (.cells #[.string s,.bool bo,.int .i64 lo,.int .i64 hh] 45)) trivial (fun _=>?_);clear hK K;(try simp only [Act.put,sAr,sZe,sSu]);obtain ⟨z,hz⟩:=ex_ Wc.heap.size;obtain ⟨We,hV⟩:=ex_ (Wc.alloc (.cells #[.string s,.bool bo,.int .i64 lo,.int .i64 hh] 45));have hb5:=bAl hV;have HZ:=nAl hV hz;replace HS:=Hd (HS.out.below hb5);replace HWS:Hid (ws≤We.heap.size):=Nat.le_trans HWS.out hb5.size;rw [←hV,←hz];clear hV hz hb5 Wc
        rename World=>Wc)
     | (refine isSt ?_
        have y3:=HS.out.rdr.cm (k:=0) (by omega);have f3:=HS.out.rdr.frozen (3+0);have hRl9:=HS.out.rdr.lt;simp only [Nat.reduceAdd] at y3 f3;go_simp;clear y3 f3 hRl9;refine hK.out _ _ trivial (fun _=>?_);clear hK K
        try simp only [Act.put,sAr,sZe,sSu])
     | (refine step_append_lies _ (by rfl) _ _ _ (by rfl) B 45 i0 (.agg #[.string ⟨#[]⟩,.bool false,.int .i64 0,.int .i64 0]) 4 40 Tryz.underlying23 hi0 hz0 hz1 hz2 rfl (by decide) (.slice a nk cp) nk (X 0).flatten (by rfl) (by have h:=HS.out.own.own 0 (by omega) trivial;rw [HV.out,←HNK.out] at h;exact h) ⟨z,0,none⟩ 1 1 [.string s,.bool bo,.int .i64 lo,.int .i64 hh] (by rfl) (by rfl) (World.news_of_block HZ.out) (by simp [Value.oneCell']) (by decide) (by unfold maxLen;omega) (by omega) HS.out.big _ rfl ?_
        intro g cap We hown7 hgrow7 hat7 hlt7;refine hK.out _ _ trivial (fun _=>?_);clear hK K;(try simp only [Act.put,sAr,sZe,sSu]);have HGR:Hid (Wc.grownBy We (V 0).ownBlock):=by show World.grownBy _ _ _;rw [HV.out];exact hgrow7
        have HAT:Hid ((V 0).ownBlock=some g∨g=Wc.heap.size):=by show _∨_;rw [HV.out];exact hat7
        have HOWN:=Hd hown7
        have hgR:g≠R:=by
         rcases HAT.out with h | h
         · exact (HS.out.own.lt 0 (by omega) g h).2.2
         · have:=HS.out.rdr.lt;omega
        have HGJ:Hid (∀ j,j<8→j≠0→(V j).ownBlock≠some g):=fun j hj hne e=>by
         rcases HAT.out with h | h
         · exact HS.out.own.ap j 0 hj (by omega) hne g e h
         · have:=(HS.out.own.lt j hj g e).2.1;omega
        replace HWS:Hid (ws≤We.heap.size):=Nat.le_trans HWS.out HGR.out.size;replace HS:=Hd (HS.out.grown (k:=0) (by omega) HGR.out HAT.out);clear hown7 hgrow7 hat7 HGR HAT hlt7 HZ Wc
        rename World=>Wc)
     | fail
    all_goals
     repeat
      (first | refine tkI 0 (v:=?_) rfl ?hy ?_ | refine tkI 1 (v:=?_) rfl ?hy ?_ | refine tkI 2 (v:=?_) rfl ?hy ?_ | refine tkI 3 (v:=?_) rfl ?hy ?_ | refine tkI 5 (v:=?_) rfl ?hy ?_ | refine tkI 9 (v:=?_) rfl ?hy ?_ | refine tkI 10 (v:=?_) rfl ?hy ?_
       case hy=>
        intro w0 hS;clear hS;go_simp
        (first | done | with_reducible rfl)
       try simp only [Act.put,sAr,sZe,sSu])
   all_goals refine wpAnyH_done (by decide +kernel) ?_ _
   all_goals
    refine NoPanic.normal ?_
    have hop:=HS.out.own.put (k:=0) (w':=Wc.setCell ⟨R,3,none⟩ (.slice (some ⟨g,0,none⟩) (nk+1) cap)) (e:=(elS l 0 (i+1)).1) (by omega) HOWN.out (by rw [HNK.out]) hgR HGJ.out (fun _ h=>h.2) (S0:=fun q=>ws≤q∧q≠g) (by
     rw [HE.out]
     exact rfl) (fun q _ h=>⟨by have:=HBS.out;omega,by have:=HRS.out;omega,h.2,fun j hj e=>by have:=HRA.out j hj q e;omega⟩) (setAt _)
    have hrp:=HS.out.rdr.put (k:=0) (by omega) (.slice (some ⟨g,0,none⟩) (nk+1) cap);have hbl:Below B w (Wc.setCell ⟨R,3,none⟩ (.slice (some ⟨g,0,none⟩) (nk+1) cap)):=HS.out.bel.setCell hBR _;have hbg:=HS.out.big;obtain ⟨WF,hWF⟩:=ex_ (Wc.setCell ⟨R,3,none⟩ (.slice (some ⟨g,0,none⟩) (nk+1) cap));have hsF:WF.heap.size=Wc.heap.size:=by rw [hWF];simp
    simp only [Nat.reduceAdd] at hrp;rw [←hWF] at hop hrp hbl ⊢;have HOP:=Hd hop;have HRP:=Hd hrp;have HBL:=Hd hbl;clear hop hrp hbl hWF;go_wp2_with fail;exact decl_door HF.out HRP.out HOP.out HBL.out (HP.out.below HBL.out HA.out) hBR (by omega) (fun h=>by have:=HJL.out h;have:=HN.out;omega) _ (by first | exact Or.inl rfl | exact Or.inr rfl)
 · rw [iN hlt,iN hlt] at hg;rw [iN hlt,iN hlt] at HF;have hs1:=hg.2.2;have hm:mustS l 4 [59] i 18=(i,18):=rfl;rw [←hm] at HF;have HS1:Hid (DS w B R (some ⟨b,off,none⟩) l.length c V X G i 18 (fun _=>True) (SOf B R V) w1):=⟨hg.1,HM.out.move (fun q _ hl hR=>hg.2.1.block q hl hR) (Nat.le_of_eq hs1.symm),only_belowB (w:=w) ⟨hg.2.1.os,hg.2.1.tape,hg.2.1.output,Nat.le_of_eq hs1.symm,hg.2.1.block⟩ hBR hBw,hBR,by rw [hs1];exact hBw⟩;rw [dF hlt];clear hg hm c0 c1 x0 x2 hcm HMO HT0 hs1;go_wp2_with fail;exact decl_door HF.out HS1.out.rdr HS1.out.own HS1.out.bel (HP.out.below HS1.out.bel HA.out) hBR HS1.out.big (fun _=>by omega) _ (by first | exact Or.inl rfl | exact Or.inr rfl)
end Go.Proofs.YtkhoeoilamddaaaGreatDoor
