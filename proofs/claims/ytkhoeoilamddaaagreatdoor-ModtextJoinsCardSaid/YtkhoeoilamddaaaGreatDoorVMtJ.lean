/- Walks and plain words: MtJ MtK. -/
import Derived.Test.YtkhoeoilamddaaaGreatDoorVMtG
namespace Go.Proofs.YtkhoeoilamddaaaGreatDoor
open Go.RowKit
set_option linter.unusedVariables false
set_option linter.unusedSimpArgs false
set_option maxRecDepth 100000
set_option maxHeartbeats 16000000
theorem tLMtJ {o:Array Oper} {i:Nat} {x:Oper} (h:o.toList[i]?=some x):o[i]?=some x:=by simpa using h
theorem infoDf:(Tryz.prog.info? 74).map (fun i=>(i.zero,i.size,i.bytes))=some (some (.agg #[.string ⟨#[]⟩,.int .i64 0,.int .i64 0,.string ⟨#[]⟩,.slice none 0 0]),5,72):=by kernel_rfl
theorem termS_ok2 {l:List Tok} {i:Nat} {x:Int} (h:(termS l i x).2.2=0):(termS l i x).2.1≤l.length:=by
 unfold termS at h ⊢
 by_cases hx:x≠0
 · rw [iP hx] at h;exact absurd h hx
 · rw [iN hx] at h ⊢;exact (takeT_ok (l:=l) (i:=i) (t:=(takeT l i).1) (j:=(takeT l i).2.1) (by rw [←h])).2.jl
theorem defS_ok {l:List Tok} {i:Nat} {x:Int} (h0:i≤l.length) (h:(defS l i x).2.2=0):(defS l i x).2.1≤l.length:=termS_ok2 h
theorem mdecl1_any (R:Nat) (A:Option Addr) (c i B:Nat) (l:List Tok) (V:Nat→Value) (X:Nat→List (List Value)) (G:Nat→List El) (w:World) (hw:isTk l i 3 (wordOf 1)=true) (hR:MRd w R A l.length c i 0 V) (hP:PTok w R A c l) (hM:MAll w B R V X G) (hBR:B≤R) (hA:∀ a,A=some a→a.block<B) (hG:(G 1).length≤64) :
 Calls Tryz.prog 15 #[.pointer (some ⟨R,0,none⟩)] w (DPost R A c l B w (if (G 1).length<64 then mustS l 4 [59] (elS l 1 (i+1)).2.1 (elS l 1 (i+1)).2.2 else (i,18)) (if (G 1).length<64 then upd G 1 (G 1++[(elS l 1 (i+1)).1]) else G)):=by
 obtain ⟨F,HF⟩:=exh_ (DPost R A c l B w (if (G 1).length<64 then mustS l 4 [59] (elS l 1 (i+1)).2.1 (elS l 1 (i+1)).2.2 else (i,18)) (if (G 1).length<64 then upd G 1 (G 1++[(elS l 1 (i+1)).1]) else G));rw [←HF.out];have hlen:=hP.len;have hcap:=hP.cap;have hcapm:=hP.capm;unfold maxLen at hcapm;have HP:=Hd hP;obtain ⟨b,off,hAb,hbR,hbw,hin,x0,x2⟩:=tk_cells hP hw;obtain ⟨a,cp,hV,hcp,hcpm⟩:=hM.shape (k:=1) (by omega);obtain ⟨nk,HNK⟩:=exh_ (G 1).length;rw [←HNK.out] at hV hcp hG HF;have hcm:=hR.cm (k:=1) (by omega);rw [hV] at hcm;have HV:=Hd hV;have HR:=Hd hR;have HM:=Hd hM;have c0:=hR.c0;have c1:=hR.c1;have hRlt:=hR.lt;have hBw:B≤w.heap.size:=by omega
 have hl0:0<l.length:=by omega
 have HT0:Hid (∀ W,MRd W R A l.length c (i+1) 0 V→Below B w W→Calls Tryz.prog 41 #[.pointer (some ⟨R,0,none⟩)] W (fun e w'=>(∃ A5 c5,e=.returned (dfVal (defS l (i+1) 0).1.1 (defS l (i+1) 0).1.2 A5 c5)∧TmVS (fun q=>W.heap.size≤q) w' A5 c5 (defS l (i+1) 0).1.2)∧MFin R A l.length c V (defS l (i+1) 0).2.1 (defS l (i+1) 0).2.2 W w')):=fun W hr hb=>mdef_any R A c (i+1) l 0 V W hr (HP.out.below hb hA) (by omega) hl0;have HMO:=Hd (fun m=>mmore_any R A l.length c i nk V (w.drewN m) hR (by omega) (by omega));obtain ⟨n,HN⟩:=exh_ l.length;rw [←HN.out] at c0 hcap hin hlen;have hk0:(0:Int)≤(i:Int):=by omega
 have hk1:(i:Int)<(n:Int):=by omega
 have HA:=Hd hA;subst hAb;clear hA hV hR hP hM hw;simp only [wordOf,wDef,Nat.reduceAdd] at x2 hcm
 go_enter_defers Tryz.func15,Tryz.ntmps15
 go_wp2_with fail
 go_quiet (fail)
 go_wp2_with fail
 go_quiet (fail)
 go_wp2_with fail;refine (HMO.out _).mono ?_;rintro e w1 ⟨rfl,hg⟩
 by_cases hlt:nk<64
 · rw [iP hlt,iP hlt] at hg;rw [iP hlt,iP hlt] at HF;have hdt:decide (nk<64)=true:=decide_eq_true hlt;have hs1:=hg.2.2;have HS1:Hid (DS w B R (some ⟨b,off,none⟩) l.length c V X G (i+1) 0 (fun _=>True) (SOf B R V) w1):=⟨hg.1,HM.out.move (fun q _ hl hR=>hg.2.1.block q hl hR) (Nat.le_of_eq hs1.symm),only_belowB (w:=w) ⟨hg.2.1.os,hg.2.1.tape,hg.2.1.output,Nat.le_of_eq hs1.symm,hg.2.1.block⟩ hBR hBw,hBR,by rw [hs1];exact hBw⟩;clear hg;obtain ⟨i0,hi0,hz0,hz1,hz2⟩:=info_parts infoDf;have HE0:Hid (elS l 1 (i+1)=(.defs ⟨(defS l (i+1) 0).1.1,(defS l (i+1) 0).1.2⟩,(defS l (i+1) 0).2)):=rfl;have HJ0:Hid ((defS l (i+1) 0).2.2=0→(defS l (i+1) 0).2.1≤l.length):=defS_ok (by have:=HN.out;omega)
   generalize defS l (i+1) 0=tt at HT0 HE0 HJ0
   obtain ⟨⟨s,t⟩,j,y⟩:=tt;simp only at HT0 HE0 HJ0;have HE:Hid ((elS l 1 (i+1)).1=.defs ⟨s,t⟩):=by show _=_;rw [HE0.out]
   have HE2:Hid ((elS l 1 (i+1)).2=(j,y)):=by show _=_;rw [HE0.out]
   rw [HE2.out] at HF;simp only at HF;have HJL:=HJ0;clear HE0 HE2 HJ0;rw [hdt];clear hdt;go_wp2_with fail;refine wp_region_noPanic ?_;refine wp_region_held_drew (S:=fun _=>True) (by kernel_rfl) trivial (fun _=>?_);have hT:True:=trivial;have hkk0:(0:Int)≤(nk:Int):=by omega
   have hkk1:(nk:Int)<(nk:Int)+1:=by omega
   obtain ⟨Wc,hWc⟩:=ex_ w1.drew;have HS:Hid (DS w B R (some ⟨b,off,none⟩) l.length c V X G (i+1) 0 (fun _=>True) (SOf B R V) Wc):=by show DS _ _ _ _ _ _ _ _ _ _ _ _ _ _;rw [hWc];exact HS1.out.only (HS1.out.rdr.drewN 1) (Only.refl.drewN 1)
   obtain ⟨ws,hws⟩:=ex_ w1.heap.size;have HWS:Hid (ws≤Wc.heap.size):=by show _≤_;rw [hws,hWc];exact lr _
   have HRW:Hid (∀ q,(V 1).ownBlock=some q→q<ws):=fun q hq=>by rw [hws];exact (HS1.out.own.lt 1 (by omega) q hq).2.1
   have HRA:Hid (∀ j,j<8→∀ q,(V j).ownBlock=some q→q<ws):=fun j hj q hq=>by rw [hws];exact (HS1.out.own.lt j hj q hq).2.1
   have HBS:Hid (B≤ws):=by show _≤_;rw [hws];exact HS1.out.big
   have HRS:Hid (R<ws):=by show _<_;rw [hws];exact HS1.out.rdr.lt
   have HT:=HT0;rw [←hWc];clear hWc hws HS1 HT0 c0 c1 x0 x2 hcm HMO hs1
   repeat
    (first | refine tkI 0 (v:=?_) rfl ?hy ?_ | refine tkI 1 (v:=?_) rfl ?hy ?_ | refine tkI 2 (v:=?_) rfl ?hy ?_ | refine tkI 3 (v:=?_) rfl ?hy ?_ | refine tkI 5 (v:=?_) rfl ?hy ?_ | refine tkI 9 (v:=?_) rfl ?hy ?_ | refine tkI 10 (v:=?_) rfl ?hy ?_
     case hy=>
      intro w0 hS;clear hS;go_simp
      (first | done | with_reducible rfl)
     try simp only [Act.put,sAr,sZe,sSu])
   iterate 5
    all_goals first
     | refine Rd (rs:=[4,6]) (by decide +kernel) (by simp) (Rc (tLMtJ rfl) (fun K hK=>?_) (Rc (tLMtJ rfl) (fun K hK=>?_) Rn))
     | refine Rd (rs:=[4,7]) (by decide +kernel) (by simp) (Rc (tLMtJ rfl) (fun K hK=>?_) (Rc (tLMtJ rfl) (fun K hK=>?_) Rn))
     | refine Rd (rs:=[6]) (by decide +kernel) (by simp) (Rc (tLMtJ rfl) (fun K hK=>?_) Rn)
     | refine Rd (rs:=[7]) (by decide +kernel) (by simp) (Rc (tLMtJ rfl) (fun K hK=>?_) Rn)
     | refine Rd (rs:=[4]) (by decide +kernel) (by simp) (Rc (tLMtJ rfl) (fun K hK=>?_) Rn)
     | refine Rd (rs:=[8]) (by decide +kernel) (by simp) (Rc (tLMtJ rfl) (fun K hK=>?_) Rn)
     | refine Rd (rs:=[11]) (by decide +kernel) (by simp) (Rc (tLMtJ rfl) (fun K hK=>?_) Rn)
     | fail
    all_goals first
     | (refine isLd ?_
        have y3:=HS.out.rdr.cm (k:=1) (by omega);rw [HV.out] at y3;simp only [Nat.reduceAdd] at y3;go_simp;clear y3;refine hK.out _ Wc trivial (fun _=>?_);clear hK K
        try simp only [Act.put,sAr,sZe,sSu])
     | (refine isCl ?_
        go_simp;(with_reducible refine (HT.out _ HS.out.rdr HS.out.bel).mono ?_);rintro e We ⟨⟨A5,c5,rfl,hv5⟩,hg5⟩;simp only [dfVal];obtain ⟨n5,HN5⟩:=exh_ t.kids.length;rw [←HN5.out];refine hK.out _ _ trivial (fun _=>?_);clear hK K;(try simp only [Act.put,sAr,sZe,sSu]);have hs5:=hg5.2.size;have HV0:Hid (TmVS (fun q=>ws≤q) We A5 c5 t):=hv5.keep Kr (fun q _ h=>by have:=HWS.out;omega);clear hv5;replace HS:=Hd (HS.out.only hg5.1 hg5.2);replace HWS:Hid (ws≤We.heap.size):=Nat.le_trans HWS.out hs5;clear hg5 hs5 Wc
        rename World=>Wc)
     | (refine isBs ?_
        go_simp;refine hK.out _ (Wc.alloc (.cells #[.string s,.int .i64 t.op,.int .i64 t.num,.string t.name,.slice A5 n5 c5] 74)) trivial (fun _=>?_);clear hK K;(try simp only [Act.put,sAr,sZe,sSu]);obtain ⟨z,hz⟩:=ex_ Wc.heap.size;obtain ⟨We,hV⟩:=ex_ (Wc.alloc (.cells #[.string s,.int .i64 t.op,.int .i64 t.num,.string t.name,.slice A5 n5 c5] 74));have hb5:=bAl hV;have HZ:=nAl hV hz;replace HV0:Hid (TmVS (fun q=>ws≤q) We A5 c5 t):=HV0.out.keep (Kb hb5) (fun _ _ h=>h);replace HS:=Hd (HS.out.below hb5);replace HWS:Hid (ws≤We.heap.size):=Nat.le_trans HWS.out hb5.size;rw [←hV,←hz];clear hV hz hb5 Wc
        rename World=>Wc)
     | (refine isSt ?_
        have y3:=HS.out.rdr.cm (k:=1) (by omega);have f3:=HS.out.rdr.frozen (3+1);have hRl9:=HS.out.rdr.lt;simp only [Nat.reduceAdd] at y3 f3;go_simp;clear y3 f3 hRl9;refine hK.out _ _ trivial (fun _=>?_);clear hK K
        try simp only [Act.put,sAr,sZe,sSu])
     | (refine step_append_lies _ (by rfl) _ _ _ (by rfl) B 74 i0 (.agg #[.string ⟨#[]⟩,.int .i64 0,.int .i64 0,.string ⟨#[]⟩,.slice none 0 0]) 5 72 Tryz.underlying24 hi0 hz0 hz1 hz2 rfl (by decide) (.slice a nk cp) nk (X 1).flatten (by rfl) (by have h:=HS.out.own.own 1 (by omega) trivial;rw [HV.out,←HNK.out] at h;exact h) ⟨z,0,none⟩ 1 1 [.string s,.int .i64 t.op,.int .i64 t.num,.string t.name,.slice A5 n5 c5] (by rfl) (by rfl) (World.news_of_block HZ.out) (by simp [Value.oneCell']) (by decide) (by unfold maxLen;omega) (by omega) HS.out.big _ rfl ?_
        intro g cap We hown7 hgrow7 hat7 hlt7;refine hK.out _ _ trivial (fun _=>?_);clear hK K;(try simp only [Act.put,sAr,sZe,sSu]);have HGR:Hid (Wc.grownBy We (V 1).ownBlock):=by show World.grownBy _ _ _;rw [HV.out];exact hgrow7
        have HAT:Hid ((V 1).ownBlock=some g∨g=Wc.heap.size):=by show _∨_;rw [HV.out];exact hat7
        have HOWN:=Hd hown7
        have hgR:g≠R:=by
         rcases HAT.out with h | h
         · exact (HS.out.own.lt 1 (by omega) g h).2.2
         · have:=HS.out.rdr.lt;omega
        have HGJ:Hid (∀ j,j<8→j≠1→(V j).ownBlock≠some g):=fun j hj hne e=>by
         rcases HAT.out with h | h
         · exact HS.out.own.ap j 1 hj (by omega) hne g e h
         · have:=(HS.out.own.lt j hj g e).2.1;omega
        have HV5:Hid (TmVS (fun q=>ws≤q∧q≠g) We A5 c5 t):=(HV0.out.keep (S':=fun q=>ws≤q∧q≠g) Kr (fun q hq h=>⟨h,by
         rcases HAT.out with h2 | h2
         · have:=HRW.out g h2;omega
         · omega⟩)).keep ⟨HGR.out.size,fun q hq hl=>HGR.out.block q hl (fun e=>by have:=HRW.out q e.symm;omega)⟩ (fun _ _ h=>h)
        clear HV0;replace HWS:Hid (ws≤We.heap.size):=Nat.le_trans HWS.out HGR.out.size;replace HS:=Hd (HS.out.grown (k:=1) (by omega) HGR.out HAT.out);clear hown7 hgrow7 hat7 HGR HAT hlt7 HZ Wc
        rename World=>Wc)
     | fail
    all_goals
     repeat
      (first | refine tkI 0 (v:=?_) rfl ?hy ?_ | refine tkI 1 (v:=?_) rfl ?hy ?_ | refine tkI 2 (v:=?_) rfl ?hy ?_ | refine tkI 3 (v:=?_) rfl ?hy ?_ | refine tkI 5 (v:=?_) rfl ?hy ?_ | refine tkI 9 (v:=?_) rfl ?hy ?_ | refine tkI 10 (v:=?_) rfl ?hy ?_
       case hy=>
        intro w0 hS;clear hS;go_simp
        (first | done | with_reducible rfl)
       try simp only [Act.put,sAr,sZe,sSu])
   all_goals refine wpAnyH_done (by decide +kernel) ?_ _
   all_goals
    refine NoPanic.normal ?_
    have hop:=HS.out.own.put (k:=1) (w':=Wc.setCell ⟨R,4,none⟩ (.slice (some ⟨g,0,none⟩) (nk+1) cap)) (e:=(elS l 1 (i+1)).1) (by omega) HOWN.out (by rw [HNK.out]) hgR HGJ.out (fun _ h=>h.2) (S0:=fun q=>ws≤q∧q≠g) (by
     rw [HE.out]
     exact ⟨_,rfl,A5,c5,by rw [HN5.out],HV5.out⟩) (fun q _ h=>⟨by have:=HBS.out;omega,by have:=HRS.out;omega,h.2,fun j hj e=>by have:=HRA.out j hj q e;omega⟩) (setAt _)
    have hrp:=HS.out.rdr.put (k:=1) (by omega) (.slice (some ⟨g,0,none⟩) (nk+1) cap);have hbl:Below B w (Wc.setCell ⟨R,4,none⟩ (.slice (some ⟨g,0,none⟩) (nk+1) cap)):=HS.out.bel.setCell hBR _;have hbg:=HS.out.big;obtain ⟨WF,hWF⟩:=ex_ (Wc.setCell ⟨R,4,none⟩ (.slice (some ⟨g,0,none⟩) (nk+1) cap));have hsF:WF.heap.size=Wc.heap.size:=by rw [hWF];simp
    simp only [Nat.reduceAdd] at hrp;rw [←hWF] at hop hrp hbl ⊢;have HOP:=Hd hop;have HRP:=Hd hrp;have HBL:=Hd hbl;clear hop hrp hbl hWF;go_wp2_with fail;exact decl_door HF.out HRP.out HOP.out HBL.out (HP.out.below HBL.out HA.out) hBR (by omega) (fun h=>by have:=HJL.out h;have:=HN.out;omega) _ (by first | exact Or.inl rfl | exact Or.inr rfl)
 · rw [iN hlt,iN hlt] at hg;rw [iN hlt,iN hlt] at HF;have hs1:=hg.2.2;have hm:mustS l 4 [59] i 18=(i,18):=rfl;rw [←hm] at HF;have HS1:Hid (DS w B R (some ⟨b,off,none⟩) l.length c V X G i 18 (fun _=>True) (SOf B R V) w1):=⟨hg.1,HM.out.move (fun q _ hl hR=>hg.2.1.block q hl hR) (Nat.le_of_eq hs1.symm),only_belowB (w:=w) ⟨hg.2.1.os,hg.2.1.tape,hg.2.1.output,Nat.le_of_eq hs1.symm,hg.2.1.block⟩ hBR hBw,hBR,by rw [hs1];exact hBw⟩;rw [dF hlt];clear hg hm c0 c1 x0 x2 hcm HMO HT0 hs1;go_wp2_with fail;exact decl_door HF.out HS1.out.rdr HS1.out.own HS1.out.bel (HP.out.below HS1.out.bel HA.out) hBR HS1.out.big (fun _=>by omega) _ (by first | exact Or.inl rfl | exact Or.inr rfl)
theorem mdecl4_any (R:Nat) (A:Option Addr) (c i B:Nat) (l:List Tok) (V:Nat→Value) (X:Nat→List (List Value)) (G:Nat→List El) (w:World) (hw:isTk l i 3 (wordOf 4)=true) (hR:MRd w R A l.length c i 0 V) (hP:PTok w R A c l) (hM:MAll w B R V X G) (hBR:B≤R) (hA:∀ a,A=some a→a.block<B) (hG:(G 4).length≤64) :
 Calls Tryz.prog 15 #[.pointer (some ⟨R,0,none⟩)] w (DPost R A c l B w (if (G 4).length<64 then mustS l 4 [59] (elS l 4 (i+1)).2.1 (elS l 4 (i+1)).2.2 else (i,18)) (if (G 4).length<64 then upd G 4 (G 4++[(elS l 4 (i+1)).1]) else G)):=by
 obtain ⟨F,HF⟩:=exh_ (DPost R A c l B w (if (G 4).length<64 then mustS l 4 [59] (elS l 4 (i+1)).2.1 (elS l 4 (i+1)).2.2 else (i,18)) (if (G 4).length<64 then upd G 4 (G 4++[(elS l 4 (i+1)).1]) else G));rw [←HF.out];have hlen:=hP.len;have hcap:=hP.cap;have hcapm:=hP.capm;unfold maxLen at hcapm;have HP:=Hd hP;obtain ⟨b,off,hAb,hbR,hbw,hin,x0,x2⟩:=tk_cells hP hw;obtain ⟨a,cp,hV,hcp,hcpm⟩:=hM.shape (k:=4) (by omega);obtain ⟨nk,HNK⟩:=exh_ (G 4).length;rw [←HNK.out] at hV hcp hG HF;have hcm:=hR.cm (k:=4) (by omega);rw [hV] at hcm;have HV:=Hd hV;have HR:=Hd hR;have HM:=Hd hM;have c0:=hR.c0;have c1:=hR.c1;have hRlt:=hR.lt;have hBw:B≤w.heap.size:=by omega
 have hl0:0<l.length:=by omega
 have HT0:Hid (∀ W,MRd W R A l.length c (i+1) 0 V→Below B w W→Calls Tryz.prog 41 #[.pointer (some ⟨R,0,none⟩)] W (fun e w'=>(∃ A5 c5,e=.returned (dfVal (defS l (i+1) 0).1.1 (defS l (i+1) 0).1.2 A5 c5)∧TmVS (fun q=>W.heap.size≤q) w' A5 c5 (defS l (i+1) 0).1.2)∧MFin R A l.length c V (defS l (i+1) 0).2.1 (defS l (i+1) 0).2.2 W w')):=fun W hr hb=>mdef_any R A c (i+1) l 0 V W hr (HP.out.below hb hA) (by omega) hl0;have HMO:=Hd (fun m=>mmore_any R A l.length c i nk V (w.drewN m) hR (by omega) (by omega));obtain ⟨n,HN⟩:=exh_ l.length;rw [←HN.out] at c0 hcap hin hlen;have hk0:(0:Int)≤(i:Int):=by omega
 have hk1:(i:Int)<(n:Int):=by omega
 have HA:=Hd hA;subst hAb;clear hA hV hR hP hM hw;simp only [wordOf,wNext,Nat.reduceAdd] at x2 hcm
 go_enter_defers Tryz.func15,Tryz.ntmps15
 go_wp2_with fail
 go_quiet (fail)
 go_wp2_with fail
 go_quiet (fail)
 go_wp2_with fail;refine (HMO.out _).mono ?_;rintro e w1 ⟨rfl,hg⟩
 by_cases hlt:nk<64
 · rw [iP hlt,iP hlt] at hg;rw [iP hlt,iP hlt] at HF;have hdt:decide (nk<64)=true:=decide_eq_true hlt;have hs1:=hg.2.2;have HS1:Hid (DS w B R (some ⟨b,off,none⟩) l.length c V X G (i+1) 0 (fun _=>True) (SOf B R V) w1):=⟨hg.1,HM.out.move (fun q _ hl hR=>hg.2.1.block q hl hR) (Nat.le_of_eq hs1.symm),only_belowB (w:=w) ⟨hg.2.1.os,hg.2.1.tape,hg.2.1.output,Nat.le_of_eq hs1.symm,hg.2.1.block⟩ hBR hBw,hBR,by rw [hs1];exact hBw⟩;clear hg;obtain ⟨i0,hi0,hz0,hz1,hz2⟩:=info_parts infoDf;have HE0:Hid (elS l 4 (i+1)=(.next ⟨(defS l (i+1) 0).1.1,(defS l (i+1) 0).1.2⟩,(defS l (i+1) 0).2)):=rfl;have HJ0:Hid ((defS l (i+1) 0).2.2=0→(defS l (i+1) 0).2.1≤l.length):=defS_ok (by have:=HN.out;omega)
   generalize defS l (i+1) 0=tt at HT0 HE0 HJ0
   obtain ⟨⟨s,t⟩,j,y⟩:=tt;simp only at HT0 HE0 HJ0;have HE:Hid ((elS l 4 (i+1)).1=.next ⟨s,t⟩):=by show _=_;rw [HE0.out]
   have HE2:Hid ((elS l 4 (i+1)).2=(j,y)):=by show _=_;rw [HE0.out]
   rw [HE2.out] at HF;simp only at HF;have HJL:=HJ0;clear HE0 HE2 HJ0;rw [hdt];clear hdt;go_wp2_with fail;refine wp_region_noPanic ?_;refine wp_region_held_drew (S:=fun _=>True) (by kernel_rfl) trivial (fun _=>?_);have hT:True:=trivial;have hkk0:(0:Int)≤(nk:Int):=by omega
   have hkk1:(nk:Int)<(nk:Int)+1:=by omega
   obtain ⟨Wc,hWc⟩:=ex_ w1.drew;have HS:Hid (DS w B R (some ⟨b,off,none⟩) l.length c V X G (i+1) 0 (fun _=>True) (SOf B R V) Wc):=by show DS _ _ _ _ _ _ _ _ _ _ _ _ _ _;rw [hWc];exact HS1.out.only (HS1.out.rdr.drewN 1) (Only.refl.drewN 1)
   obtain ⟨ws,hws⟩:=ex_ w1.heap.size;have HWS:Hid (ws≤Wc.heap.size):=by show _≤_;rw [hws,hWc];exact lr _
   have HRW:Hid (∀ q,(V 4).ownBlock=some q→q<ws):=fun q hq=>by rw [hws];exact (HS1.out.own.lt 4 (by omega) q hq).2.1
   have HRA:Hid (∀ j,j<8→∀ q,(V j).ownBlock=some q→q<ws):=fun j hj q hq=>by rw [hws];exact (HS1.out.own.lt j hj q hq).2.1
   have HBS:Hid (B≤ws):=by show _≤_;rw [hws];exact HS1.out.big
   have HRS:Hid (R<ws):=by show _<_;rw [hws];exact HS1.out.rdr.lt
   have HT:=HT0;rw [←hWc];clear hWc hws HS1 HT0 c0 c1 x0 x2 hcm HMO hs1
   repeat
    (first | refine tkI 0 (v:=?_) rfl ?hy ?_ | refine tkI 1 (v:=?_) rfl ?hy ?_ | refine tkI 2 (v:=?_) rfl ?hy ?_ | refine tkI 3 (v:=?_) rfl ?hy ?_ | refine tkI 5 (v:=?_) rfl ?hy ?_ | refine tkI 9 (v:=?_) rfl ?hy ?_ | refine tkI 10 (v:=?_) rfl ?hy ?_
     case hy=>
      intro w0 hS;clear hS;go_simp
      (first | done | with_reducible rfl)
     try simp only [Act.put,sAr,sZe,sSu])
   iterate 5
    all_goals first
     | refine Rd (rs:=[4,6]) (by decide +kernel) (by simp) (Rc (tLMtJ rfl) (fun K hK=>?_) (Rc (tLMtJ rfl) (fun K hK=>?_) Rn))
     | refine Rd (rs:=[4,7]) (by decide +kernel) (by simp) (Rc (tLMtJ rfl) (fun K hK=>?_) (Rc (tLMtJ rfl) (fun K hK=>?_) Rn))
     | refine Rd (rs:=[6]) (by decide +kernel) (by simp) (Rc (tLMtJ rfl) (fun K hK=>?_) Rn)
     | refine Rd (rs:=[7]) (by decide +kernel) (by simp) (Rc (tLMtJ rfl) (fun K hK=>?_) Rn)
     | refine Rd (rs:=[4]) (by decide +kernel) (by simp) (Rc (tLMtJ rfl) (fun K hK=>?_) Rn)
     | refine Rd (rs:=[8]) (by decide +kernel) (by simp) (Rc (tLMtJ rfl) (fun K hK=>?_) Rn)
     | refine Rd (rs:=[11]) (by decide +kernel) (by simp) (Rc (tLMtJ rfl) (fun K hK=>?_) Rn)
     | fail
    all_goals first
     | (refine isLd ?_
        have y3:=HS.out.rdr.cm (k:=4) (by omega);rw [HV.out] at y3;simp only [Nat.reduceAdd] at y3;go_simp;clear y3;refine hK.out _ Wc trivial (fun _=>?_);clear hK K
        try simp only [Act.put,sAr,sZe,sSu])
     | (refine isCl ?_
        go_simp;(with_reducible refine (HT.out _ HS.out.rdr HS.out.bel).mono ?_);rintro e We ⟨⟨A5,c5,rfl,hv5⟩,hg5⟩;simp only [dfVal];obtain ⟨n5,HN5⟩:=exh_ t.kids.length;rw [←HN5.out];refine hK.out _ _ trivial (fun _=>?_);clear hK K;(try simp only [Act.put,sAr,sZe,sSu]);have hs5:=hg5.2.size;have HV0:Hid (TmVS (fun q=>ws≤q) We A5 c5 t):=hv5.keep Kr (fun q _ h=>by have:=HWS.out;omega);clear hv5;replace HS:=Hd (HS.out.only hg5.1 hg5.2);replace HWS:Hid (ws≤We.heap.size):=Nat.le_trans HWS.out hs5;clear hg5 hs5 Wc
        rename World=>Wc)
     | (refine isBs ?_
        go_simp;refine hK.out _ (Wc.alloc (.cells #[.string s,.int .i64 t.op,.int .i64 t.num,.string t.name,.slice A5 n5 c5] 74)) trivial (fun _=>?_);clear hK K;(try simp only [Act.put,sAr,sZe,sSu]);obtain ⟨z,hz⟩:=ex_ Wc.heap.size;obtain ⟨We,hV⟩:=ex_ (Wc.alloc (.cells #[.string s,.int .i64 t.op,.int .i64 t.num,.string t.name,.slice A5 n5 c5] 74));have hb5:=bAl hV;have HZ:=nAl hV hz;replace HV0:Hid (TmVS (fun q=>ws≤q) We A5 c5 t):=HV0.out.keep (Kb hb5) (fun _ _ h=>h);replace HS:=Hd (HS.out.below hb5);replace HWS:Hid (ws≤We.heap.size):=Nat.le_trans HWS.out hb5.size;rw [←hV,←hz];clear hV hz hb5 Wc
        rename World=>Wc)
     | (refine isSt ?_
        have y3:=HS.out.rdr.cm (k:=4) (by omega);have f3:=HS.out.rdr.frozen (3+4);have hRl9:=HS.out.rdr.lt;simp only [Nat.reduceAdd] at y3 f3;go_simp;clear y3 f3 hRl9;refine hK.out _ _ trivial (fun _=>?_);clear hK K
        try simp only [Act.put,sAr,sZe,sSu])
     | (refine step_append_lies _ (by rfl) _ _ _ (by rfl) B 74 i0 (.agg #[.string ⟨#[]⟩,.int .i64 0,.int .i64 0,.string ⟨#[]⟩,.slice none 0 0]) 5 72 Tryz.underlying24 hi0 hz0 hz1 hz2 rfl (by decide) (.slice a nk cp) nk (X 4).flatten (by rfl) (by have h:=HS.out.own.own 4 (by omega) trivial;rw [HV.out,←HNK.out] at h;exact h) ⟨z,0,none⟩ 1 1 [.string s,.int .i64 t.op,.int .i64 t.num,.string t.name,.slice A5 n5 c5] (by rfl) (by rfl) (World.news_of_block HZ.out) (by simp [Value.oneCell']) (by decide) (by unfold maxLen;omega) (by omega) HS.out.big _ rfl ?_
        intro g cap We hown7 hgrow7 hat7 hlt7;refine hK.out _ _ trivial (fun _=>?_);clear hK K;(try simp only [Act.put,sAr,sZe,sSu]);have HGR:Hid (Wc.grownBy We (V 4).ownBlock):=by show World.grownBy _ _ _;rw [HV.out];exact hgrow7
        have HAT:Hid ((V 4).ownBlock=some g∨g=Wc.heap.size):=by show _∨_;rw [HV.out];exact hat7
        have HOWN:=Hd hown7
        have hgR:g≠R:=by
         rcases HAT.out with h | h
         · exact (HS.out.own.lt 4 (by omega) g h).2.2
         · have:=HS.out.rdr.lt;omega
        have HGJ:Hid (∀ j,j<8→j≠4→(V j).ownBlock≠some g):=fun j hj hne e=>by
         rcases HAT.out with h | h
         · exact HS.out.own.ap j 4 hj (by omega) hne g e h
         · have:=(HS.out.own.lt j hj g e).2.1;omega
        have HV5:Hid (TmVS (fun q=>ws≤q∧q≠g) We A5 c5 t):=(HV0.out.keep (S':=fun q=>ws≤q∧q≠g) Kr (fun q hq h=>⟨h,by
         rcases HAT.out with h2 | h2
         · have:=HRW.out g h2;omega
         · omega⟩)).keep ⟨HGR.out.size,fun q hq hl=>HGR.out.block q hl (fun e=>by have:=HRW.out q e.symm;omega)⟩ (fun _ _ h=>h)
        clear HV0;replace HWS:Hid (ws≤We.heap.size):=Nat.le_trans HWS.out HGR.out.size;replace HS:=Hd (HS.out.grown (k:=4) (by omega) HGR.out HAT.out);clear hown7 hgrow7 hat7 HGR HAT hlt7 HZ Wc
        rename World=>Wc)
     | fail
    all_goals
     repeat
      (first | refine tkI 0 (v:=?_) rfl ?hy ?_ | refine tkI 1 (v:=?_) rfl ?hy ?_ | refine tkI 2 (v:=?_) rfl ?hy ?_ | refine tkI 3 (v:=?_) rfl ?hy ?_ | refine tkI 5 (v:=?_) rfl ?hy ?_ | refine tkI 9 (v:=?_) rfl ?hy ?_ | refine tkI 10 (v:=?_) rfl ?hy ?_
       case hy=>
        intro w0 hS;clear hS;go_simp
        (first | done | with_reducible rfl)
       try simp only [Act.put,sAr,sZe,sSu])
   all_goals refine wpAnyH_done (by decide +kernel) ?_ _
   all_goals
    refine NoPanic.normal ?_
    have hop:=HS.out.own.put (k:=4) (w':=Wc.setCell ⟨R,7,none⟩ (.slice (some ⟨g,0,none⟩) (nk+1) cap)) (e:=(elS l 4 (i+1)).1) (by omega) HOWN.out (by rw [HNK.out]) hgR HGJ.out (fun _ h=>h.2) (S0:=fun q=>ws≤q∧q≠g) (by
     rw [HE.out]
     exact ⟨_,rfl,A5,c5,by rw [HN5.out],HV5.out⟩) (fun q _ h=>⟨by have:=HBS.out;omega,by have:=HRS.out;omega,h.2,fun j hj e=>by have:=HRA.out j hj q e;omega⟩) (setAt _)
    have hrp:=HS.out.rdr.put (k:=4) (by omega) (.slice (some ⟨g,0,none⟩) (nk+1) cap);have hbl:Below B w (Wc.setCell ⟨R,7,none⟩ (.slice (some ⟨g,0,none⟩) (nk+1) cap)):=HS.out.bel.setCell hBR _;have hbg:=HS.out.big;obtain ⟨WF,hWF⟩:=ex_ (Wc.setCell ⟨R,7,none⟩ (.slice (some ⟨g,0,none⟩) (nk+1) cap));have hsF:WF.heap.size=Wc.heap.size:=by rw [hWF];simp
    simp only [Nat.reduceAdd] at hrp;rw [←hWF] at hop hrp hbl ⊢;have HOP:=Hd hop;have HRP:=Hd hrp;have HBL:=Hd hbl;clear hop hrp hbl hWF;go_wp2_with fail;exact decl_door HF.out HRP.out HOP.out HBL.out (HP.out.below HBL.out HA.out) hBR (by omega) (fun h=>by have:=HJL.out h;have:=HN.out;omega) _ (by first | exact Or.inl rfl | exact Or.inr rfl)
 · rw [iN hlt,iN hlt] at hg;rw [iN hlt,iN hlt] at HF;have hs1:=hg.2.2;have hm:mustS l 4 [59] i 18=(i,18):=rfl;rw [←hm] at HF;have HS1:Hid (DS w B R (some ⟨b,off,none⟩) l.length c V X G i 18 (fun _=>True) (SOf B R V) w1):=⟨hg.1,HM.out.move (fun q _ hl hR=>hg.2.1.block q hl hR) (Nat.le_of_eq hs1.symm),only_belowB (w:=w) ⟨hg.2.1.os,hg.2.1.tape,hg.2.1.output,Nat.le_of_eq hs1.symm,hg.2.1.block⟩ hBR hBw,hBR,by rw [hs1];exact hBw⟩;rw [dF hlt];clear hg hm c0 c1 x0 x2 hcm HMO HT0 hs1;go_wp2_with fail;exact decl_door HF.out HS1.out.rdr HS1.out.own HS1.out.bel (HP.out.below HS1.out.bel HA.out) hBR HS1.out.big (fun _=>by omega) _ (by first | exact Or.inl rfl | exact Or.inr rfl)
theorem tLMtK {o:Array Oper} {i:Nat} {x:Oper} (h:o.toList[i]?=some x):o[i]?=some x:=by simpa using h
theorem infoSp:(Tryz.prog.info? 69).map (fun i=>(i.zero,i.size,i.bytes))=some (some (.agg #[.string ⟨#[]⟩,.int .i64 0,.int .i64 0,.int .i64 0,.string ⟨#[]⟩,.slice none 0 0,.slice none 0 0]),7,104):=by kernel_rfl
section
variable {w w':World} {B R:Nat} {V:Nat→Value} {X:Nat→List (List Value)} {G:Nat→List El} {D S:Nat→Prop}
theorem MOwn.asideA {b:Nat} (h:MOwn w B R V X G D S) (ho:Only (fun q=>q=b) w w') (hb:∀ q,S q→q≠b) (hj:∀ j,j<8→(V j).ownBlock≠some b):MOwn w' B R V X G D S:=
 ⟨fun j hj8 hDj=>own_at (h.own j hj8 hDj) (fun q hq=>ho.block q (h.lt j hj8 q hq).2.1 (fun e=>hj j hj8 (e ▸ hq))),
  fun j hj8=>(h.vals j hj8).keep ⟨ho.size,fun q hq hl=>ho.block q hl (hb q hq)⟩ (fun _ _ h=>h),h.sub,
  fun j hj8 q hq=>⟨(h.lt j hj8 q hq).1,lL (h.lt j hj8 q hq).2.1 ho.size,(h.lt j hj8 q hq).2.2⟩,h.ap⟩
theorem MOwn.fresh {b:Nat} (h:MOwn w B R V X G D S) (hb:Below w.heap.size w w') (he:b=w.heap.size):MOwn w' B R V X G D (fun q=>S q∧q≠b):=
 ⟨fun j hj8 hDj=>own_at (h.own j hj8 hDj) (fun q hq=>hb.block q (h.lt j hj8 q hq).2.1),
  fun j hj8=>(h.vals j hj8).keep ⟨hb.size,fun q hq hl=>hb.block q hl⟩ (fun q hl h=>⟨h,by omega⟩),fun q hq=>h.sub q hq.1,
  fun j hj8 q hq=>⟨(h.lt j hj8 q hq).1,lL (h.lt j hj8 q hq).2.1 hb.size,(h.lt j hj8 q hq).2.2⟩,h.ap⟩
variable {W W' w0:World} {n c i b:Nat} {A:Option Addr} {x:Int}
theorem DS.fresh (h:DS w0 B R A n c V X G i x D S W) (hb:Below W.heap.size W W') (he:b=W.heap.size):DS w0 B R A n c V X G i x D (fun q=>S q∧q≠b) W':=⟨h.rdr.below hb h.rdr.lt,h.own.fresh hb he,(h.below hb).bel,h.bR,Nat.le_trans h.big hb.size⟩
theorem DS.asideA (h:DS w0 B R A n c V X G i x D S W) (ho:Only (fun q=>q=b) W W') (hb:∀ q,S q→q≠b) (hj:∀ j,j<8→(V j).ownBlock≠some b) (hbR:b≠R) (hbB:B≤b):DS w0 B R A n c V X G i x D S W':=
 ⟨(ho.block R h.rdr.lt (fun e=>hbR e.symm)).trans h.rdr,h.own.asideA ho hb hj,h.bel.trans ⟨ho.os,ho.tape,ho.output,ho.size,fun q hq=>ho.block q (by have:=h.big;omega) (by omega)⟩,h.bR,Nat.le_trans h.big ho.size⟩
end
theorem formS_ok {l:List Tok} {i:Nat} {x:Int} (h:(formS l i x).2.2=0):(formS l i x).2.1≤l.length:=by
 unfold formS at h ⊢
 by_cases hx:x≠0
 · rw [iP hx] at h;exact absurd h hx
 · rw [iN hx] at h ⊢;exact (takeF_ok (l:=l) (i:=i) (f:=(takeF l i).1) (j:=(takeF l i).2.1) (by rw [←h])).2.jl
theorem onlyS1_6 {W:World} {b:Nat} (v1 v2 v3 v4 v5 v6:Value):Only (fun q=>q=b) W ((((((W.setCell ⟨b,1,none⟩ v1).setCell ⟨b,2,none⟩ v2).setCell ⟨b,3,none⟩ v3).setCell ⟨b,4,none⟩ v4).setCell ⟨b,5,none⟩ v5).setCell ⟨b,6,none⟩ v6):=((((((setAt _).trans (setAt _)).trans (setAt _)).trans (setAt _)).trans (setAt _)).trans (setAt _))
theorem s1_6 {W:World} {b:Nat} {u0 u1 u2 u3 u4 u5 u6 v1 v2 v3 v4 v5 v6:Value} {T:TypeId} (h:W.heap[b]?=some (.cells #[u0,u1,u2,u3,u4,u5,u6] T (0,0))):((((((W.setCell ⟨b,1,none⟩ v1).setCell ⟨b,2,none⟩ v2).setCell ⟨b,3,none⟩ v3).setCell ⟨b,4,none⟩ v4).setCell ⟨b,5,none⟩ v5).setCell ⟨b,6,none⟩ v6).heap[b]?=some (.cells #[u0,v1,v2,v3,v4,v5,v6] T (0,0)):=by
 simp [World.setCell,Array.getElem?_modify,h]
theorem mdecl7_any (R:Nat) (A:Option Addr) (c i B:Nat) (l:List Tok) (V:Nat→Value) (X:Nat→List (List Value)) (G:Nat→List El) (w:World) (hw:isTk l i 3 (wordOf 7)=true) (hR:MRd w R A l.length c i 0 V) (hP:PTok w R A c l) (hM:MAll w B R V X G) (hBR:B≤R) (hA:∀ a,A=some a→a.block<B) (hG:(G 7).length≤64) :
 Calls Tryz.prog 15 #[.pointer (some ⟨R,0,none⟩)] w (DPost R A c l B w (if (G 7).length<64 then mustS l 4 [59] (elS l 7 (i+1)).2.1 (elS l 7 (i+1)).2.2 else (i,18)) (if (G 7).length<64 then upd G 7 (G 7++[(elS l 7 (i+1)).1]) else G)):=by
 obtain ⟨F,HF⟩:=exh_ (DPost R A c l B w (if (G 7).length<64 then mustS l 4 [59] (elS l 7 (i+1)).2.1 (elS l 7 (i+1)).2.2 else (i,18)) (if (G 7).length<64 then upd G 7 (G 7++[(elS l 7 (i+1)).1]) else G));rw [←HF.out];have hlen:=hP.len;have hcap:=hP.cap;have hcapm:=hP.capm;unfold maxLen at hcapm;have HP:=Hd hP;obtain ⟨b,off,hAb,hbR,hbw,hin,tx0,tx2⟩:=tk_cells hP hw;obtain ⟨a,cp,hV,hcp,hcpm⟩:=hM.shape (k:=7) (by omega);obtain ⟨nk,HNK⟩:=exh_ (G 7).length;rw [←HNK.out] at hV hcp hG HF;have hcm:=hR.cm (k:=7) (by omega);rw [hV] at hcm;have HV:=Hd hV;have HR:=Hd hR;have HM:=Hd hM;have c0:=hR.c0;have c1:=hR.c1;have hRlt:=hR.lt;have hBw:B≤w.heap.size:=by omega
 have hl0:0<l.length:=by omega
 have HN1:=Hd (fun W (hr:MRd W R A l.length c (i+1) 0 V) (hb:Below B w W)=>mname_any R A c (i+1) l 0 V W hr (HP.out.below hb hA) (by omega));have hl1:=nameS_le (x:=0) (show i+1≤l.length by omega);have HE0:Hid (elS l 7 (i+1)=(.spec ⟨(nameS l (i+1) 0).1,(formS l (mustS l 4 [58] (nameS l (i+1) 0).2.1 (nameS l (i+1) 0).2.2).1 (mustS l 4 [58] (nameS l (i+1) 0).2.1 (nameS l (i+1) 0).2.2).2).1⟩,(formS l (mustS l 4 [58] (nameS l (i+1) 0).2.1 (nameS l (i+1) 0).2.2).1 (mustS l 4 [58] (nameS l (i+1) 0).2.1 (nameS l (i+1) 0).2.2).2).2)):=rfl
 generalize nameS l (i+1) 0=na at HN1 hl1 HE0
 obtain ⟨s,i1,x1⟩:=na;have HM1:=Hd (fun W (hr:MRd W R A l.length c i1 x1 V) (hb:Below B w W)=>mmust_any R A c i1 l x1 V 4 ⟨#[58]⟩ W hr (HP.out.below hb hA) (fun _=>by simp only at hl1;omega));rw [show bs ⟨#[58]⟩=[58] from rfl] at HM1;have hl2:=mustS_le (l:=l) (k:=4) (s:=[58]) (x:=x1) hl1
 generalize mustS l 4 [58] i1 x1=nb at HM1 hl2 HE0
 obtain ⟨i2,x2⟩:=nb;have HT0:=Hd (fun W (hr:MRd W R A l.length c i2 x2 V) (hb:Below B w W)=>mform_any R A c i2 l x2 V W hr (HP.out.below hb hA) hl2 hl0);have HMO:=Hd (fun m=>mmore_any R A l.length c i nk V (w.drewN m) hR (by omega) (by omega));obtain ⟨n,HN⟩:=exh_ l.length;rw [←HN.out] at c0 hcap hin hlen;have hk0:(0:Int)≤(i:Int):=by omega
 have hk1:(i:Int)<(n:Int):=by omega
 have HA:=Hd hA;subst hAb;clear hA hV hR hP hM hw;simp only [wordOf,wSpec,Nat.reduceAdd] at tx2 hcm
 go_enter_defers Tryz.func15,Tryz.ntmps15
 go_wp2_with fail
 go_quiet (fail)
 go_wp2_with fail
 go_quiet (fail)
 go_wp2_with fail;refine (HMO.out _).mono ?_;rintro e w1 ⟨rfl,hg⟩
 by_cases hlt:nk<64
 · rw [iP hlt,iP hlt] at hg;rw [iP hlt,iP hlt] at HF;have hdt:decide (nk<64)=true:=decide_eq_true hlt;have hs1:=hg.2.2;have HS1:Hid (DS w B R (some ⟨b,off,none⟩) l.length c V X G (i+1) 0 (fun _=>True) (SOf B R V) w1):=⟨hg.1,HM.out.move (fun q _ hl hR=>hg.2.1.block q hl hR) (Nat.le_of_eq hs1.symm),only_belowB (w:=w) ⟨hg.2.1.os,hg.2.1.tape,hg.2.1.output,Nat.le_of_eq hs1.symm,hg.2.1.block⟩ hBR hBw,hBR,by rw [hs1];exact hBw⟩;clear hg;obtain ⟨i0,hi0,hz0,hz1,hz2⟩:=info_parts infoSp;have HJ0:Hid ((formS l i2 x2).2.2=0→(formS l i2 x2).2.1≤l.length):=formS_ok
   generalize formS l i2 x2=tt at HT0 HE0 HJ0
   obtain ⟨t,j,y⟩:=tt;simp only at HT0 HE0 HJ0 HN1 HM1 hl1;have HE:Hid ((elS l 7 (i+1)).1=.spec ⟨s,t⟩):=by show _=_;rw [HE0.out]
   have HE2:Hid ((elS l 7 (i+1)).2=(j,y)):=by show _=_;rw [HE0.out]
   rw [HE2.out] at HF;simp only at HF;have HJL:=HJ0;clear HE0 HE2 HJ0;rw [hdt];clear hdt;obtain ⟨ws,hws⟩:=ex_ w1.heap.size;have HWS1:Hid (ws≤w1.heap.size):=by show _≤_;rw [hws];exact lr _
   have HRW:Hid (∀ q,(V 7).ownBlock=some q→q<ws):=fun q hq=>by rw [hws];exact (HS1.out.own.lt 7 (by omega) q hq).2.1
   have HRA:Hid (∀ j,j<8→∀ q,(V j).ownBlock=some q→q<ws):=fun j hj q hq=>by rw [hws];exact (HS1.out.own.lt j hj q hq).2.1
   have HBS:Hid (B≤ws):=by show _≤_;rw [hws];exact HS1.out.big
   have HRS:Hid (R<ws):=by show _<_;rw [hws];exact HS1.out.rdr.lt
   clear hws c0 c1 tx0 tx2 hcm HMO hs1 hl1 hl2;go_wp2_with fail;refine (HN1.out _ HS1.out.rdr HS1.out.bel).mono ?_;rintro e w2 ⟨rfl,hg⟩;have HS2:=Hd (HS1.out.only hg.1 hg.2.1);have HZ2:Hid (w1.heap.size=w2.heap.size):=hg.2.2.symm;clear hg HN1;go_wp2_with fail;obtain ⟨b4,hb4⟩:=ex_ w2.heap.size;obtain ⟨w3,hw3⟩:=ex_ (w2.alloc (.cells #[.string s,.int .i64 0,.int .i64 0,.int .i64 0,.string ⟨#[]⟩,.slice none 0 0,.slice none 0 0] 69));have X4:=nAl hw3 hb4;have HS3:=Hd (HS2.out.fresh (bAl hw3) hb4);have hb4w:ws≤b4:=by have:=HWS1.out;have:=HZ2.out;omega
   rw [←hw3,←hb4];clear hw3 hb4 HZ2;refine (HM1.out _ HS3.out.rdr HS3.out.bel).mono ?_;rintro e w4 ⟨rfl,hg⟩;have hb4R:b4≠R:=by have:=HRS.out;omega
   replace X4:=Hd ((hg.2.1.block b4 (lH X4.out) hb4R).trans X4.out);have HS4:=Hd (HS3.out.only hg.1 hg.2.1);clear hg HM1;go_wp2_with fail;refine (HT0.out _ HS4.out.rdr HS4.out.bel).mono ?_;rintro e w5 ⟨⟨x,rfl,hv⟩,hg⟩;have HV0:Hid (x.Is (fun q=>ws≤q∧q≠b4) w5 t):=hv.keep Kr (fun q _ h=>by have:=lH X4.out;omega);replace X4:=Hd ((hg.2.block b4 (lH X4.out) hb4R).trans X4.out);have HS5:=Hd (HS4.out.only hg.1 hg.2);simp only [FV.val];obtain ⟨k0,k1,k2,k3,k4,k5,k6,kz⟩:=q7 X4.out;have hkl:=lH X4.out;clear hv hg HT0;go_wp2_with fail;clear k0 k1 k2 k3 k4 k5 k6 kz hkl;obtain ⟨w6,hw6⟩:=ex_ (((((((w5.setCell ⟨b4,1,none⟩ (.int .i64 x.o)).setCell ⟨b4,2,none⟩ (.int .i64 x.tn)).setCell ⟨b4,3,none⟩ (.int .i64 x.tm)).setCell ⟨b4,4,none⟩ (.string x.s)).setCell ⟨b4,5,none⟩ (.slice x.Ae x.ne x.ce)).setCell ⟨b4,6,none⟩ (.slice x.A x.n x.c)));have ho6:Only (fun q=>q=b4) w5 w6:=by rw [hw6];exact onlyS1_6 _ _ _ _ _ _
   replace X4:Hid (w6.heap[b4]?=some (.cells #[.string s,.int .i64 x.o,.int .i64 x.tn,.int .i64 x.tm,.string x.s,.slice x.Ae x.ne x.ce,.slice x.A x.n x.c] 69 (0,0))):=by show _=_;rw [hw6];exact s1_6 X4.out
   have HS6:=Hd (HS5.out.asideA ho6 (fun _ h=>h.2) (fun j hj e=>by have:=HRA.out j hj b4 e;omega) hb4R (by have:=HBS.out;omega));replace HV0:Hid (x.Is (fun q=>ws≤q∧q≠b4) w6 t):=HV0.out.keep (KeepS.of_only ho6 (by simp)) (fun _ _ h=>h);rw [←hw6];clear hw6 ho6;refine wp_region_noPanic ?_;refine wp_region_held_drew (S:=fun W=>W.heap[b4]?=some (.cells #[.string s,.int .i64 x.o,.int .i64 x.tn,.int .i64 x.tm,.string x.s,.slice x.Ae x.ne x.ce,.slice x.A x.n x.c] 69 (0,0))) (by kernel_rfl) X4.out (fun hHeld=>?_);have hkk0:(0:Int)≤(nk:Int):=by omega
   have hkk1:(nk:Int)<(nk:Int)+1:=by omega
   obtain ⟨Wc,hWc⟩:=ex_ w6.drew;have HS:=Hd (HS6.out.only (W':=Wc) (by rw [hWc];exact HS6.out.rdr.drewN 1) (by rw [hWc];exact Only.refl.drewN 1));have HWS:Hid (ws≤Wc.heap.size):=by show _≤_;have:=lH X4.out;rw [hWc];show ws≤w6.heap.size;omega
   replace HV0:Hid (x.Is (fun q=>ws≤q∧q≠b4) Wc t):=by show FV.Is _ _ _ _;rw [hWc];exact HV0.out.keep ⟨lr _,fun _ _ _=>rfl⟩ (fun _ _ h=>h)
   replace X4:Hid (Wc.heap[b4]?=some (.cells #[.string s,.int .i64 x.o,.int .i64 x.tn,.int .i64 x.tm,.string x.s,.slice x.Ae x.ne x.ce,.slice x.A x.n x.c] 69 (0,0))):=by show _=_;rw [hWc];exact X4.out
   rw [←hWc] at hHeld ⊢;clear hWc HS1 HS2 HS3 HS4 HS5 HS6 HWS1
   repeat
    (first | refine tkI 0 (v:=?_) rfl ?hy ?_ | refine tkI 1 (v:=?_) rfl ?hy ?_ | refine tkI 2 (v:=?_) rfl ?hy ?_ | refine tkI 3 (v:=?_) rfl ?hy ?_ | refine tkI 5 (v:=?_) rfl ?hy ?_ | refine tkI 8 (v:=?_) rfl ?hy ?_ | refine tkI 9 (v:=?_) rfl ?hy ?_
     case hy=>
      intro w0 hS;obtain ⟨k0,k1,k2,k3,k4,k5,k6,kz⟩:=q7 hS;clear hS;go_simp
      (first | done | with_reducible rfl)
     try simp only [Act.put,sAr,sZe,sSu])
   iterate 4
    all_goals first
     | refine Rd (rs:=[4,6]) (by decide +kernel) (by simp) (Rc (tLMtK rfl) (fun K hK=>?_) (Rc (tLMtK rfl) (fun K hK=>?_) Rn))
     | refine Rd (rs:=[6]) (by decide +kernel) (by simp) (Rc (tLMtK rfl) (fun K hK=>?_) Rn)
     | refine Rd (rs:=[4]) (by decide +kernel) (by simp) (Rc (tLMtK rfl) (fun K hK=>?_) Rn)
     | refine Rd (rs:=[7]) (by decide +kernel) (by simp) (Rc (tLMtK rfl) (fun K hK=>?_) Rn)
     | refine Rd (rs:=[10]) (by decide +kernel) (by simp) (Rc (tLMtK rfl) (fun K hK=>?_) Rn)
     | fail
    all_goals first
     | (refine isLd ?_
        have y3:=HS.out.rdr.cm (k:=7) (by omega);rw [HV.out] at y3;simp only [Nat.reduceAdd] at y3;go_simp;clear y3 hHeld;refine hK.out _ Wc (X4.out) (fun hHeld=>?_);clear hK K
        try simp only [Act.put,sAr,sZe,sSu])
     | (refine isBs ?_
        go_simp;clear hHeld;refine hK.out _ (Wc.alloc (.cells #[.string s,.int .i64 x.o,.int .i64 x.tn,.int .i64 x.tm,.string x.s,.slice x.Ae x.ne x.ce,.slice x.A x.n x.c] 69)) ((((Br _ _).alloc (lr _) _).block b4 (lH X4.out)).trans X4.out) (fun hHeld=>?_);clear hK K;(try simp only [Act.put,sAr,sZe,sSu]);obtain ⟨z,hz⟩:=ex_ Wc.heap.size;obtain ⟨We,hV⟩:=ex_ (Wc.alloc (.cells #[.string s,.int .i64 x.o,.int .i64 x.tn,.int .i64 x.tm,.string x.s,.slice x.Ae x.ne x.ce,.slice x.A x.n x.c] 69));have hb5:=bAl hV;have HZ:=nAl hV hz;replace HV0:Hid (x.Is (fun q=>ws≤q∧q≠b4) We t):=HV0.out.keep (Kb hb5) (fun _ _ h=>h);replace X4:=kX hb5 X4;replace HS:=Hd (HS.out.below hb5);replace HWS:Hid (ws≤We.heap.size):=Nat.le_trans HWS.out hb5.size;rw [←hV] at hHeld;rw [←hV,←hz];clear hV hz hb5 hHeld;have hHeld:=X4.out;clear Wc
        rename World=>Wc)
     | (refine isSt ?_
        have y3:=HS.out.rdr.cm (k:=7) (by omega);have f3:=HS.out.rdr.frozen (3+7);have hRl9:=HS.out.rdr.lt;simp only [Nat.reduceAdd] at y3 f3;go_simp;clear y3 f3 hRl9 hHeld;refine hK.out _ _ ((hO_ Wc ⟨R,10,none⟩ b4 _ (by show b4≠R;have:=HRS.out;omega)).trans X4.out) (fun hHeld=>?_);clear hK K
        try simp only [Act.put,sAr,sZe,sSu])
     | (refine step_append_lies _ (by rfl) _ _ _ (by rfl) B 69 i0 (.agg #[.string ⟨#[]⟩,.int .i64 0,.int .i64 0,.int .i64 0,.string ⟨#[]⟩,.slice none 0 0,.slice none 0 0]) 7 104 Tryz.underlying26 hi0 hz0 hz1 hz2 rfl (by decide) (.slice a nk cp) nk (X 7).flatten (by rfl) (by have h:=HS.out.own.own 7 (by omega) trivial;rw [HV.out,←HNK.out] at h;exact h) ⟨z,0,none⟩ 1 1 [.string s,.int .i64 x.o,.int .i64 x.tn,.int .i64 x.tm,.string x.s,.slice x.Ae x.ne x.ce,.slice x.A x.n x.c] (by rfl) (by rfl) (World.news_of_block HZ.out) (by simp [Value.oneCell']) (by decide) (by unfold maxLen;omega) (by omega) HS.out.big _ rfl ?_
        intro g cap We hown7 hgrow7 hat7 hlt7;have hx4:We.heap[b4]?=some (.cells #[.string s,.int .i64 x.o,.int .i64 x.tn,.int .i64 x.tm,.string x.s,.slice x.Ae x.ne x.ce,.slice x.A x.n x.c] 69 (0,0)):=(hgrow7.block b4 (lH X4.out) (fun e=>by have:=HRW.out b4 (by rw [HV.out];exact e.symm);omega)).trans X4.out;clear hHeld;refine hK.out _ We (hx4) (fun hHeld=>?_);clear hK K;(try simp only [Act.put,sAr,sZe,sSu]);have HGR:Hid (Wc.grownBy We (V 7).ownBlock):=by show World.grownBy _ _ _;rw [HV.out];exact hgrow7
        have HAT:Hid ((V 7).ownBlock=some g∨g=Wc.heap.size):=by show _∨_;rw [HV.out];exact hat7
        have HOWN:=Hd hown7
        have hgR:g≠R:=by
         rcases HAT.out with h | h
         · exact (HS.out.own.lt 7 (by omega) g h).2.2
         · have:=HS.out.rdr.lt;omega
        have HGJ:Hid (∀ j,j<8→j≠7→(V j).ownBlock≠some g):=fun j hj hne e=>by
         rcases HAT.out with h | h
         · exact HS.out.own.ap j 7 hj (by omega) hne g e h
         · have:=(HS.out.own.lt j hj g e).2.1;omega
        have HV5:Hid (x.Is (fun q=>ws≤q∧q≠g) We t):=(HV0.out.keep (S':=fun q=>ws≤q∧q≠g) Kr (fun q hq h=>⟨h.1,by
         rcases HAT.out with h2 | h2
         · have:=HRW.out g h2;omega
         · omega⟩)).keep ⟨HGR.out.size,fun q hq hl=>HGR.out.block q hl (fun e=>by have:=HRW.out q e.symm;omega)⟩ (fun _ _ h=>h)
        clear HV0;replace HWS:Hid (ws≤We.heap.size):=Nat.le_trans HWS.out HGR.out.size;have HSZ4:Hid (b4<Wc.heap.size):=lH X4.out;replace HS:=Hd (HS.out.grown (k:=7) (by omega) HGR.out HAT.out);clear X4;have X4:=Hd hx4
        have HB4:Hid (b4≠g):=by
         rcases HAT.out with h2 | h2
         · have:=HRW.out g h2;show _≠_;omega
         · have:=HSZ4.out;show _≠_;omega
        clear hown7 hgrow7 hat7 HGR HAT hlt7 HZ hHeld hx4 HSZ4 Wc;rename World=>Wc
        have hHeld:=X4.out)
     | fail
    all_goals
     repeat
      (first | refine tkI 0 (v:=?_) rfl ?hy ?_ | refine tkI 1 (v:=?_) rfl ?hy ?_ | refine tkI 2 (v:=?_) rfl ?hy ?_ | refine tkI 3 (v:=?_) rfl ?hy ?_ | refine tkI 5 (v:=?_) rfl ?hy ?_ | refine tkI 8 (v:=?_) rfl ?hy ?_ | refine tkI 9 (v:=?_) rfl ?hy ?_
       case hy=>
        intro w0 hS;obtain ⟨k0,k1,k2,k3,k4,k5,k6,kz⟩:=q7 hS;clear hS;go_simp
        (first | done | with_reducible rfl)
       try simp only [Act.put,sAr,sZe,sSu])
   all_goals refine wpAnyH_done (by decide +kernel) ?_ _
   all_goals
    refine NoPanic.normal ?_
    have hop:=HS.out.own.put (k:=7) (w':=Wc.setCell ⟨R,10,none⟩ (.slice (some ⟨g,0,none⟩) (nk+1) cap)) (e:=(elS l 7 (i+1)).1) (by omega) HOWN.out (by rw [HNK.out]) hgR HGJ.out (fun _ h=>h.2) (S0:=fun q=>ws≤q∧q≠g) (by
     rw [HE.out]
     exact ⟨x,rfl,HV5.out⟩) (fun q _ h=>⟨by have:=HBS.out;omega,by have:=HRS.out;omega,h.2,fun j hj e=>by have:=HRA.out j hj q e;omega⟩) (setAt _)
    have hrp:=HS.out.rdr.put (k:=7) (by omega) (.slice (some ⟨g,0,none⟩) (nk+1) cap);have hbl:Below B w (Wc.setCell ⟨R,10,none⟩ (.slice (some ⟨g,0,none⟩) (nk+1) cap)):=HS.out.bel.setCell hBR _;have hbg:=HS.out.big;obtain ⟨WF,hWF⟩:=ex_ (Wc.setCell ⟨R,10,none⟩ (.slice (some ⟨g,0,none⟩) (nk+1) cap));have hsF:WF.heap.size=Wc.heap.size:=by rw [hWF];simp
    simp only [Nat.reduceAdd] at hrp;rw [←hWF] at hop hrp hbl ⊢;have HOP:=Hd hop;have HRP:=Hd hrp;have HBL:=Hd hbl;clear hop hrp hbl hWF;go_wp2_with fail;exact decl_door HF.out HRP.out HOP.out HBL.out (HP.out.below HBL.out HA.out) hBR (by omega) (fun h=>by have:=HJL.out h;have:=HN.out;omega) _ (by first | exact Or.inl rfl | exact Or.inr rfl)
 · rw [iN hlt,iN hlt] at hg;rw [iN hlt,iN hlt] at HF;have hs1:=hg.2.2;have hm:mustS l 4 [59] i 18=(i,18):=rfl;rw [←hm] at HF;have HS1:Hid (DS w B R (some ⟨b,off,none⟩) l.length c V X G i 18 (fun _=>True) (SOf B R V) w1):=⟨hg.1,HM.out.move (fun q _ hl hR=>hg.2.1.block q hl hR) (Nat.le_of_eq hs1.symm),only_belowB (w:=w) ⟨hg.2.1.os,hg.2.1.tape,hg.2.1.output,Nat.le_of_eq hs1.symm,hg.2.1.block⟩ hBR hBw,hBR,by rw [hs1];exact hBw⟩;rw [dF hlt];clear hg hm c0 c1 tx0 tx2 hcm HMO HT0 hs1;go_wp2_with fail;exact decl_door HF.out HS1.out.rdr HS1.out.own HS1.out.bel (HP.out.below HS1.out.bel HA.out) hBR HS1.out.big (fun _=>by omega) _ (by first | exact Or.inl rfl | exact Or.inr rfl)
end Go.Proofs.YtkhoeoilamddaaaGreatDoor
