/- Walks and plain words: MtJ MtK. -/
import Derived.Test.YtkhoeoilamddaaaGreatDoorYMtG
namespace Go.Proofs.YtkhoeoilamddaaaGreatDoor
open Go.RowKit
set_option linter.unusedVariables false
set_option linter.unusedSimpArgs false
set_option maxRecDepth 100000
set_option maxHeartbeats 16000000
theorem sK{o:Array Oper}{i:Nat}{x:Oper}(h:o.toList[i]?=some x):o[i]?=some x:=by simpa using h
theorem ad9:(Tryz.prog.info? 74).map (fun i=>(i.zero,i.size,i.bytes))=some (some (.agg #[.string ⟨#[]⟩,.int .i64 0,.int .i64 0,.string ⟨#[]⟩,.slice none 0 0]),5,72):=by kernel_rfl
theorem ab3{l:List Tok}{i:Nat}{x:Int}(h:(dK l i x).2.2=0):(dK l i x).2.1≤l.length:=by
 unfold dK at h⊢
 by_cases hx:x≠0
 ·rw[iP hx]at h;exact absurd h hx
 ·rw[iN hx]at h⊢;exact(wM (l:=l) (i:=i) (t:=(iU l i).1) (j:=(iU l i).2.1) (by rw[←h])).2.jl
theorem aaZ{l:List Tok}{i:Nat}{x:Int}(h0:i≤l.length)(h:(lq l i x).2.2=0):(lq l i x).2.1≤l.length:=ab3 h
theorem YK(R:Nat)(A:Option Addr)(c i B:Nat)(l:List Tok)(V:Nat→Value)(X:Nat→List (List Value))(G:Nat→List El)(w:World)(hw:ah l i 3 (ji 1)=true)(hR:kF w R A l.length c i 0 V)(hP:iI w R A c l)(hM:BJ w B R V X G)(jU:B≤R)(hA:∀a,A=some a→a.block<B)(hG:(G 1).length≤64) :
 Calls Tryz.prog 15 #[.pointer (some ⟨R,0,none⟩)] w (qg R A c l B w (if (G 1).length<64 then bO l 4 [59] (kC l 1 (i+1)).2.1 (kC l 1 (i+1)).2.2 else(i,18)) (if (G 1).length<64 then upd G 1 (G 1++[(kC l 1 (i+1)).1])else G)):=by
 obtain⟨F,HF⟩:=ak (qg R A c l B w (if (G 1).length<64 then bO l 4 [59] (kC l 1 (i+1)).2.1 (kC l 1 (i+1)).2.2 else(i,18)) (if (G 1).length<64 then upd G 1 (G 1++[(kC l 1 (i+1)).1])else G));rw[←HF];have hlen:=hP.len;have hcap:=hP.cap;have aQ:=hP.bU;unfold maxLen at aQ;have HP:=Hd hP;obtain⟨b,off,Yw,hbR,hbw,hin,x0,x2⟩:=uL hP hw;obtain⟨a,cp,hV,hcp,Yx⟩:=hM.shape (k:=1) (by omega);obtain⟨nk,FP⟩:=ak (G 1).length;rw[←FP]at hV hcp hG HF;have hcm:=hR.cm (k:=1) (by omega);rw[hV]at hcm;have HV:=Hd hV;have HR:=Hd hR;have HM:=Hd hM;have c0:=hR.c0;have c1:=hR.c1;have fC:=hR.lt;have hBw:B≤w.heap.size:=by omega
 have hl0:0<l.length:=by omega
 have HT0:Hid (∀W,kF W R A l.length c (i+1) 0 V→Below B w W→Calls Tryz.prog 41 #[.pointer (some ⟨R,0,none⟩)] W (fun e w'=>(∃A5 c5,e=.returned (MR (lq l (i+1) 0).1.1 (lq l (i+1) 0).1.2 A5 c5)∧aD (fun q=>W.heap.size≤q) w' A5 c5 (lq l (i+1) 0).1.2)∧Er R A l.length c V (lq l (i+1) 0).2.1 (lq l (i+1) 0).2.2 W w')):=fun W hr hb=>Ut R A c (i+1) l 0 V W hr (HP.below hb hA) (by omega) hl0;have FQ:=Hd (fun m=>qL R A l.length c i nk V (w.drewN m) hR (by omega) (by omega));obtain⟨n,HN⟩:=ak l.length;rw[←HN]at c0 hcap hin hlen;have hk0:(0:Int)≤(i:Int):=by omega
 have hk1:(i:Int)<(n:Int):=by omega
 have HA:=Hd hA;subst Yw;clear hA hV hR hP hM hw;simp only[ji,kW,Nat.reduceAdd]at x2 hcm
 go_enter_defers Tryz.func15,Tryz.ntmps15
 go_wp2_with fail
 go_quiet (fail)
 go_wp2_with fail
 go_quiet (fail)
 go_wp2_with fail;refine(FQ _).mono ?_;rintro e w1 ⟨rfl,hg⟩
 by_cases hlt:nk<64
 ·rw[iP hlt,iP hlt]at hg;rw[iP hlt,iP hlt]at HF;have hdt:decide (nk<64)=true:=decide_eq_true hlt;have hs1:=hg.2.2;have fA:Hid (DS w B R (some ⟨b,off,none⟩) l.length c V X G (i+1) 0 (fun _=>True) (EW B R V) w1):=⟨hg.1,HM.move (fun q _ hl hR=>hg.2.1.block q hl hR) (Nat.le_of_eq hs1.symm),b_ (w:=w) ⟨hg.2.1.os,hg.2.1.tape,hg.2.1.output,Nat.le_of_eq hs1.symm,hg.2.1.block⟩ jU hBw,jU,by rw[hs1];exact hBw⟩;clear hg;obtain⟨i0,hi0,hz0,hz1,hz2⟩:=info_parts ad9;have ru:Hid (kC l 1 (i+1)=(.defs ⟨(lq l (i+1) 0).1.1,(lq l (i+1) 0).1.2⟩,(lq l (i+1) 0).2)):=rfl;have zy:Hid ((lq l (i+1) 0).2.2=0→(lq l (i+1) 0).2.1≤l.length):=aaZ (by have:=HN.out;omega)
  generalize lq l (i+1) 0=tt at HT0 ru zy
  obtain⟨⟨s,t⟩,j,y⟩:=tt;simp only at HT0 ru zy;have HE:Hid ((kC l 1 (i+1)).1=.defs ⟨s,t⟩):=by show _=_;rw[ru]
  have HE2:Hid ((kC l 1 (i+1)).2=(j,y)):=by show _=_;rw[ru]
  rw[HE2]at HF;simp only at HF;have Yy:=zy;clear ru HE2 zy;rw[hdt];clear hdt;go_wp2_with fail;refine wp_region_noPanic ?_;refine wp_region_held_drew (S:=fun _=>True) (by kernel_rfl) trivial (fun _=>?_);have hT:True:=trivial;have Yz:(0:Int)≤(nk:Int):=by omega
  have YA:(nk:Int)<(nk:Int)+1:=by omega
  obtain⟨Wc,hWc⟩:=aj w1.drew;have HS:Hid (DS w B R (some ⟨b,off,none⟩) l.length c V X G (i+1) 0 (fun _=>True) (EW B R V) Wc):=by show DS _ _ _ _ _ _ _ _ _ _ _ _ _ _;rw[hWc];exact fA.only (fA.bN.drewN 1) (Only.refl.drewN 1)
  obtain⟨ws,hws⟩:=aj w1.heap.size;have kY:Hid (ws≤Wc.heap.size):=by show _≤_;rw[hws,hWc];exact lr _
  have HRW:Hid (∀q,(V 1).ownBlock=some q→q<ws):=fun q hq=>by rw[hws];exact(fA.own.lt 1 (by omega) q hq).2.1
  have SI:Hid (∀j,j<8→∀q,(V j).ownBlock=some q→q<ws):=fun j hj q hq=>by rw[hws];exact(fA.own.lt j hj q hq).2.1
  have KV:Hid (B≤ws):=by show _≤_;rw[hws];exact fA.big
  have BI:Hid (R<ws):=by show _<_;rw[hws];exact fA.bN.lt
  have HT:=HT0;rw[←hWc];clear hWc hws fA HT0 c0 c1 x0 x2 hcm FQ hs1
  repeat
   (first|refine aI 0 (v:=?_) rfl ?hy ?_|refine aI 1 (v:=?_) rfl ?hy ?_|refine aI 2 (v:=?_) rfl ?hy ?_|refine aI 3 (v:=?_) rfl ?hy ?_|refine aI 5 (v:=?_) rfl ?hy ?_|refine aI 9 (v:=?_) rfl ?hy ?_|refine aI 10 (v:=?_) rfl ?hy ?_
    case hy=>
     intro w0 hS;clear hS;go_simp
     (first|done|with_reducible rfl)
    try simp only[Act.put,aT,aU,aV])
  iterate 5
   all_goals first
    |refine Rd (rs:=[4,6]) (by decide +kernel) (by simp) (Rc (sK rfl) (fun K hK=>?_) (Rc (sK rfl) (fun K hK=>?_) Rn))
    |refine Rd (rs:=[4,7]) (by decide +kernel) (by simp) (Rc (sK rfl) (fun K hK=>?_) (Rc (sK rfl) (fun K hK=>?_) Rn))
    |refine Rd (rs:=[6]) (by decide +kernel) (by simp) (Rc (sK rfl) (fun K hK=>?_) Rn)
    |refine Rd (rs:=[7]) (by decide +kernel) (by simp) (Rc (sK rfl) (fun K hK=>?_) Rn)
    |refine Rd (rs:=[4]) (by decide +kernel) (by simp) (Rc (sK rfl) (fun K hK=>?_) Rn)
    |refine Rd (rs:=[8]) (by decide +kernel) (by simp) (Rc (sK rfl) (fun K hK=>?_) Rn)
    |refine Rd (rs:=[11]) (by decide +kernel) (by simp) (Rc (sK rfl) (fun K hK=>?_) Rn)
    |fail
   all_goals first
    |(refine Tj ?_
      have y3:=HS.bN.cm (k:=1) (by omega);rw[HV]at y3;simp only[Nat.reduceAdd]at y3;go_simp;clear y3;refine hK.out _ Wc trivial (fun _=>?_);clear hK K
      try simp only[Act.put,aT,aU,aV])
    |(refine WE ?_
      go_simp;(with_reducible refine(HT.out _ HS.out.bN HS.out.mW).mono ?_);rintro e We ⟨⟨A5,c5,rfl,hv5⟩,hg5⟩;simp only[MR];obtain⟨n5,EP⟩:=ak t.kids.length;rw[←EP];refine hK.out _ _ trivial (fun _=>?_);clear hK K;(try simp only[Act.put,aT,aU,aV]);have hs5:=hg5.2.size;have vH:Hid (aD (fun q=>ws≤q) We A5 c5 t):=hv5.keep Kr (fun q _ h=>by have:=kY.out;omega);clear hv5;replace HS:=Hd (HS.only hg5.1 hg5.2);replace kY:Hid (ws≤We.heap.size):=Nat.le_trans kY hs5;clear hg5 hs5 Wc
      rename World=>Wc)
    |(refine QI ?_
      go_simp;refine hK.out _ (Wc.alloc (.cells #[.string s,.int .i64 t.op,.int .i64 t.num,.string t.name,.slice A5 n5 c5] 74)) trivial (fun _=>?_);clear hK K;(try simp only[Act.put,aT,aU,aV]);obtain⟨z,hz⟩:=aj Wc.heap.size;obtain⟨We,hV⟩:=aj (Wc.alloc (.cells #[.string s,.int .i64 t.op,.int .i64 t.num,.string t.name,.slice A5 n5 c5] 74));have hb5:=dz hV;have HZ:=jZ hV hz;replace vH:Hid (aD (fun q=>ws≤q) We A5 c5 t):=vH.keep (Kb hb5) (fun _ _ h=>h);replace HS:=Hd (HS.below hb5);replace kY:Hid (ws≤We.heap.size):=Nat.le_trans kY hb5.size;rw[←hV,←hz];clear hV hz hb5 Wc
      rename World=>Wc)
    |(refine Gw ?_
      have y3:=HS.bN.cm (k:=1) (by omega);have f3:=HS.bN.frozen (3+1);have FT:=HS.bN.lt;simp only[Nat.reduceAdd]at y3 f3;go_simp;clear y3 f3 FT;refine hK.out _ _ trivial (fun _=>?_);clear hK K
      try simp only[Act.put,aT,aU,aV])
    |(refine step_append_lies _ (by rfl) _ _ _ (by rfl) B 74 i0 (.agg #[.string ⟨#[]⟩,.int .i64 0,.int .i64 0,.string ⟨#[]⟩,.slice none 0 0]) 5 72 Tryz.underlying24 hi0 hz0 hz1 hz2 rfl (by decide) (.slice a nk cp) nk (X 1).flatten (by rfl) (by have h:=HS.own.own 1 (by omega) trivial;rw[HV,←FP]at h;exact h) ⟨z,0,none⟩ 1 1 [.string s,.int .i64 t.op,.int .i64 t.num,.string t.name,.slice A5 n5 c5] (by rfl) (by rfl) (World.news_of_block HZ) (by simp[Value.oneCell']) (by decide) (by unfold maxLen;omega) (by omega) HS.big _ rfl ?_
      intro g cap We dN dO ku yV;refine hK.out _ _ trivial (fun _=>?_);clear hK K;(try simp only[Act.put,aT,aU,aV]);have xZ:Hid (Wc.grownBy We (V 1).ownBlock):=by show World.grownBy _ _ _;rw[HV];exact dO
      have HAT:Hid ((V 1).ownBlock=some g∨g=Wc.heap.size):=by show _∨_;rw[HV];exact ku
      have HOWN:=Hd dN
      have hgR:g≠R:=by
       rcases HAT.out with h|h
       ·exact(HS.own.lt 1 (by omega) g h).2.2
       ·have:=HS.bN.lt;omega
      have MU:Hid (∀j,j<8→j≠1→(V j).ownBlock≠some g):=fun j hj hne e=>by
       rcases HAT.out with h|h
       ·exact HS.own.ap j 1 hj (by omega) hne g e h
       ·have:=(HS.own.lt j hj g e).2.1;omega
      have HV5:Hid (aD (fun q=>ws≤q∧q≠g) We A5 c5 t):=(vH.keep (S':=fun q=>ws≤q∧q≠g) Kr (fun q hq h=>⟨h,by
       rcases HAT.out with h2|h2
       ·have:=HRW g h2;omega
       ·omega⟩)).keep ⟨xZ.size,fun q hq hl=>xZ.block q hl (fun e=>by have:=HRW q e.symm;omega)⟩ (fun _ _ h=>h)
      clear vH;replace kY:Hid (ws≤We.heap.size):=Nat.le_trans kY xZ.size;replace HS:=Hd (HS.grown (k:=1) (by omega) xZ HAT);clear dN dO ku xZ HAT yV HZ Wc
      rename World=>Wc)
    |fail
   all_goals
    repeat
     (first|refine aI 0 (v:=?_) rfl ?hy ?_|refine aI 1 (v:=?_) rfl ?hy ?_|refine aI 2 (v:=?_) rfl ?hy ?_|refine aI 3 (v:=?_) rfl ?hy ?_|refine aI 5 (v:=?_) rfl ?hy ?_|refine aI 9 (v:=?_) rfl ?hy ?_|refine aI 10 (v:=?_) rfl ?hy ?_
      case hy=>
       intro w0 hS;clear hS;go_simp
       (first|done|with_reducible rfl)
      try simp only[Act.put,aT,aU,aV])
  all_goals refine wpAnyH_done (by decide +kernel) ?_ _
  all_goals
   refine NoPanic.normal ?_
   have hop:=HS.own.put (k:=1) (w':=Wc.setCell ⟨R,4,none⟩ (.slice (some ⟨g,0,none⟩) (nk+1) cap)) (e:=(kC l 1 (i+1)).1) (by omega) HOWN (by rw[FP]) hgR MU (fun _ h=>h.2) (S0:=fun q=>ws≤q∧q≠g) (by
    rw[HE]
    exact⟨_,rfl,A5,c5,by rw[EP],HV5⟩) (fun q _ h=>⟨by have:=KV.out;omega,by have:=BI.out;omega,h.2,fun j hj e=>by have:=SI j hj q e;omega⟩) (setAt _)
   have Ba:=HS.bN.put (k:=1) (by omega) (.slice (some ⟨g,0,none⟩) (nk+1) cap);have hbl:Below B w (Wc.setCell ⟨R,4,none⟩ (.slice (some ⟨g,0,none⟩) (nk+1) cap)):=HS.mW.setCell jU _;have hbg:=HS.big;obtain⟨WF,FU⟩:=aj (Wc.setCell ⟨R,4,none⟩ (.slice (some ⟨g,0,none⟩) (nk+1) cap));have hsF:WF.heap.size=Wc.heap.size:=by rw[FU];simp
   simp only[Nat.reduceAdd]at Ba;rw[←FU]at hop Ba hbl⊢;have gy:=Hd hop;have YC:=Hd Ba;have oU:=Hd hbl;clear hop Ba hbl FU;go_wp2_with fail;exact gI HF YC gy oU (HP.below oU HA) jU (by omega) (fun h=>by have:=Yy h;have:=HN.out;omega) _ (by first|exact Or.inl rfl|exact Or.inr rfl)
 ·rw[iN hlt,iN hlt]at hg;rw[iN hlt,iN hlt]at HF;have hs1:=hg.2.2;have hm:bO l 4 [59] i 18=(i,18):=rfl;rw[←hm]at HF;have fA:Hid (DS w B R (some ⟨b,off,none⟩) l.length c V X G i 18 (fun _=>True) (EW B R V) w1):=⟨hg.1,HM.move (fun q _ hl hR=>hg.2.1.block q hl hR) (Nat.le_of_eq hs1.symm),b_ (w:=w) ⟨hg.2.1.os,hg.2.1.tape,hg.2.1.output,Nat.le_of_eq hs1.symm,hg.2.1.block⟩ jU hBw,jU,by rw[hs1];exact hBw⟩;rw[dF hlt];clear hg hm c0 c1 x0 x2 hcm FQ HT0 hs1;go_wp2_with fail;exact gI HF fA.bN fA.own fA.mW (HP.below fA.mW HA) jU fA.big (fun _=>by omega) _ (by first|exact Or.inl rfl|exact Or.inr rfl)
theorem YL(R:Nat)(A:Option Addr)(c i B:Nat)(l:List Tok)(V:Nat→Value)(X:Nat→List (List Value))(G:Nat→List El)(w:World)(hw:ah l i 3 (ji 4)=true)(hR:kF w R A l.length c i 0 V)(hP:iI w R A c l)(hM:BJ w B R V X G)(jU:B≤R)(hA:∀a,A=some a→a.block<B)(hG:(G 4).length≤64) :
 Calls Tryz.prog 15 #[.pointer (some ⟨R,0,none⟩)] w (qg R A c l B w (if (G 4).length<64 then bO l 4 [59] (kC l 4 (i+1)).2.1 (kC l 4 (i+1)).2.2 else(i,18)) (if (G 4).length<64 then upd G 4 (G 4++[(kC l 4 (i+1)).1])else G)):=by
 obtain⟨F,HF⟩:=ak (qg R A c l B w (if (G 4).length<64 then bO l 4 [59] (kC l 4 (i+1)).2.1 (kC l 4 (i+1)).2.2 else(i,18)) (if (G 4).length<64 then upd G 4 (G 4++[(kC l 4 (i+1)).1])else G));rw[←HF];have hlen:=hP.len;have hcap:=hP.cap;have aQ:=hP.bU;unfold maxLen at aQ;have HP:=Hd hP;obtain⟨b,off,Yw,hbR,hbw,hin,x0,x2⟩:=uL hP hw;obtain⟨a,cp,hV,hcp,Yx⟩:=hM.shape (k:=4) (by omega);obtain⟨nk,FP⟩:=ak (G 4).length;rw[←FP]at hV hcp hG HF;have hcm:=hR.cm (k:=4) (by omega);rw[hV]at hcm;have HV:=Hd hV;have HR:=Hd hR;have HM:=Hd hM;have c0:=hR.c0;have c1:=hR.c1;have fC:=hR.lt;have hBw:B≤w.heap.size:=by omega
 have hl0:0<l.length:=by omega
 have HT0:Hid (∀W,kF W R A l.length c (i+1) 0 V→Below B w W→Calls Tryz.prog 41 #[.pointer (some ⟨R,0,none⟩)] W (fun e w'=>(∃A5 c5,e=.returned (MR (lq l (i+1) 0).1.1 (lq l (i+1) 0).1.2 A5 c5)∧aD (fun q=>W.heap.size≤q) w' A5 c5 (lq l (i+1) 0).1.2)∧Er R A l.length c V (lq l (i+1) 0).2.1 (lq l (i+1) 0).2.2 W w')):=fun W hr hb=>Ut R A c (i+1) l 0 V W hr (HP.below hb hA) (by omega) hl0;have FQ:=Hd (fun m=>qL R A l.length c i nk V (w.drewN m) hR (by omega) (by omega));obtain⟨n,HN⟩:=ak l.length;rw[←HN]at c0 hcap hin hlen;have hk0:(0:Int)≤(i:Int):=by omega
 have hk1:(i:Int)<(n:Int):=by omega
 have HA:=Hd hA;subst Yw;clear hA hV hR hP hM hw;simp only[ji,fE,Nat.reduceAdd]at x2 hcm
 go_enter_defers Tryz.func15,Tryz.ntmps15
 go_wp2_with fail
 go_quiet (fail)
 go_wp2_with fail
 go_quiet (fail)
 go_wp2_with fail;refine(FQ _).mono ?_;rintro e w1 ⟨rfl,hg⟩
 by_cases hlt:nk<64
 ·rw[iP hlt,iP hlt]at hg;rw[iP hlt,iP hlt]at HF;have hdt:decide (nk<64)=true:=decide_eq_true hlt;have hs1:=hg.2.2;have fA:Hid (DS w B R (some ⟨b,off,none⟩) l.length c V X G (i+1) 0 (fun _=>True) (EW B R V) w1):=⟨hg.1,HM.move (fun q _ hl hR=>hg.2.1.block q hl hR) (Nat.le_of_eq hs1.symm),b_ (w:=w) ⟨hg.2.1.os,hg.2.1.tape,hg.2.1.output,Nat.le_of_eq hs1.symm,hg.2.1.block⟩ jU hBw,jU,by rw[hs1];exact hBw⟩;clear hg;obtain⟨i0,hi0,hz0,hz1,hz2⟩:=info_parts ad9;have ru:Hid (kC l 4 (i+1)=(.next ⟨(lq l (i+1) 0).1.1,(lq l (i+1) 0).1.2⟩,(lq l (i+1) 0).2)):=rfl;have zy:Hid ((lq l (i+1) 0).2.2=0→(lq l (i+1) 0).2.1≤l.length):=aaZ (by have:=HN.out;omega)
  generalize lq l (i+1) 0=tt at HT0 ru zy
  obtain⟨⟨s,t⟩,j,y⟩:=tt;simp only at HT0 ru zy;have HE:Hid ((kC l 4 (i+1)).1=.next ⟨s,t⟩):=by show _=_;rw[ru]
  have HE2:Hid ((kC l 4 (i+1)).2=(j,y)):=by show _=_;rw[ru]
  rw[HE2]at HF;simp only at HF;have Yy:=zy;clear ru HE2 zy;rw[hdt];clear hdt;go_wp2_with fail;refine wp_region_noPanic ?_;refine wp_region_held_drew (S:=fun _=>True) (by kernel_rfl) trivial (fun _=>?_);have hT:True:=trivial;have Yz:(0:Int)≤(nk:Int):=by omega
  have YA:(nk:Int)<(nk:Int)+1:=by omega
  obtain⟨Wc,hWc⟩:=aj w1.drew;have HS:Hid (DS w B R (some ⟨b,off,none⟩) l.length c V X G (i+1) 0 (fun _=>True) (EW B R V) Wc):=by show DS _ _ _ _ _ _ _ _ _ _ _ _ _ _;rw[hWc];exact fA.only (fA.bN.drewN 1) (Only.refl.drewN 1)
  obtain⟨ws,hws⟩:=aj w1.heap.size;have kY:Hid (ws≤Wc.heap.size):=by show _≤_;rw[hws,hWc];exact lr _
  have HRW:Hid (∀q,(V 4).ownBlock=some q→q<ws):=fun q hq=>by rw[hws];exact(fA.own.lt 4 (by omega) q hq).2.1
  have SI:Hid (∀j,j<8→∀q,(V j).ownBlock=some q→q<ws):=fun j hj q hq=>by rw[hws];exact(fA.own.lt j hj q hq).2.1
  have KV:Hid (B≤ws):=by show _≤_;rw[hws];exact fA.big
  have BI:Hid (R<ws):=by show _<_;rw[hws];exact fA.bN.lt
  have HT:=HT0;rw[←hWc];clear hWc hws fA HT0 c0 c1 x0 x2 hcm FQ hs1
  repeat
   (first|refine aI 0 (v:=?_) rfl ?hy ?_|refine aI 1 (v:=?_) rfl ?hy ?_|refine aI 2 (v:=?_) rfl ?hy ?_|refine aI 3 (v:=?_) rfl ?hy ?_|refine aI 5 (v:=?_) rfl ?hy ?_|refine aI 9 (v:=?_) rfl ?hy ?_|refine aI 10 (v:=?_) rfl ?hy ?_
    case hy=>
     intro w0 hS;clear hS;go_simp
     (first|done|with_reducible rfl)
    try simp only[Act.put,aT,aU,aV])
  iterate 5
   all_goals first
    |refine Rd (rs:=[4,6]) (by decide +kernel) (by simp) (Rc (sK rfl) (fun K hK=>?_) (Rc (sK rfl) (fun K hK=>?_) Rn))
    |refine Rd (rs:=[4,7]) (by decide +kernel) (by simp) (Rc (sK rfl) (fun K hK=>?_) (Rc (sK rfl) (fun K hK=>?_) Rn))
    |refine Rd (rs:=[6]) (by decide +kernel) (by simp) (Rc (sK rfl) (fun K hK=>?_) Rn)
    |refine Rd (rs:=[7]) (by decide +kernel) (by simp) (Rc (sK rfl) (fun K hK=>?_) Rn)
    |refine Rd (rs:=[4]) (by decide +kernel) (by simp) (Rc (sK rfl) (fun K hK=>?_) Rn)
    |refine Rd (rs:=[8]) (by decide +kernel) (by simp) (Rc (sK rfl) (fun K hK=>?_) Rn)
    |refine Rd (rs:=[11]) (by decide +kernel) (by simp) (Rc (sK rfl) (fun K hK=>?_) Rn)
    |fail
   all_goals first
    |(refine Tj ?_
      have y3:=HS.bN.cm (k:=4) (by omega);rw[HV]at y3;simp only[Nat.reduceAdd]at y3;go_simp;clear y3;refine hK.out _ Wc trivial (fun _=>?_);clear hK K
      try simp only[Act.put,aT,aU,aV])
    |(refine WE ?_
      go_simp;(with_reducible refine(HT.out _ HS.out.bN HS.out.mW).mono ?_);rintro e We ⟨⟨A5,c5,rfl,hv5⟩,hg5⟩;simp only[MR];obtain⟨n5,EP⟩:=ak t.kids.length;rw[←EP];refine hK.out _ _ trivial (fun _=>?_);clear hK K;(try simp only[Act.put,aT,aU,aV]);have hs5:=hg5.2.size;have vH:Hid (aD (fun q=>ws≤q) We A5 c5 t):=hv5.keep Kr (fun q _ h=>by have:=kY.out;omega);clear hv5;replace HS:=Hd (HS.only hg5.1 hg5.2);replace kY:Hid (ws≤We.heap.size):=Nat.le_trans kY hs5;clear hg5 hs5 Wc
      rename World=>Wc)
    |(refine QI ?_
      go_simp;refine hK.out _ (Wc.alloc (.cells #[.string s,.int .i64 t.op,.int .i64 t.num,.string t.name,.slice A5 n5 c5] 74)) trivial (fun _=>?_);clear hK K;(try simp only[Act.put,aT,aU,aV]);obtain⟨z,hz⟩:=aj Wc.heap.size;obtain⟨We,hV⟩:=aj (Wc.alloc (.cells #[.string s,.int .i64 t.op,.int .i64 t.num,.string t.name,.slice A5 n5 c5] 74));have hb5:=dz hV;have HZ:=jZ hV hz;replace vH:Hid (aD (fun q=>ws≤q) We A5 c5 t):=vH.keep (Kb hb5) (fun _ _ h=>h);replace HS:=Hd (HS.below hb5);replace kY:Hid (ws≤We.heap.size):=Nat.le_trans kY hb5.size;rw[←hV,←hz];clear hV hz hb5 Wc
      rename World=>Wc)
    |(refine Gw ?_
      have y3:=HS.bN.cm (k:=4) (by omega);have f3:=HS.bN.frozen (3+4);have FT:=HS.bN.lt;simp only[Nat.reduceAdd]at y3 f3;go_simp;clear y3 f3 FT;refine hK.out _ _ trivial (fun _=>?_);clear hK K
      try simp only[Act.put,aT,aU,aV])
    |(refine step_append_lies _ (by rfl) _ _ _ (by rfl) B 74 i0 (.agg #[.string ⟨#[]⟩,.int .i64 0,.int .i64 0,.string ⟨#[]⟩,.slice none 0 0]) 5 72 Tryz.underlying24 hi0 hz0 hz1 hz2 rfl (by decide) (.slice a nk cp) nk (X 4).flatten (by rfl) (by have h:=HS.own.own 4 (by omega) trivial;rw[HV,←FP]at h;exact h) ⟨z,0,none⟩ 1 1 [.string s,.int .i64 t.op,.int .i64 t.num,.string t.name,.slice A5 n5 c5] (by rfl) (by rfl) (World.news_of_block HZ) (by simp[Value.oneCell']) (by decide) (by unfold maxLen;omega) (by omega) HS.big _ rfl ?_
      intro g cap We dN dO ku yV;refine hK.out _ _ trivial (fun _=>?_);clear hK K;(try simp only[Act.put,aT,aU,aV]);have xZ:Hid (Wc.grownBy We (V 4).ownBlock):=by show World.grownBy _ _ _;rw[HV];exact dO
      have HAT:Hid ((V 4).ownBlock=some g∨g=Wc.heap.size):=by show _∨_;rw[HV];exact ku
      have HOWN:=Hd dN
      have hgR:g≠R:=by
       rcases HAT.out with h|h
       ·exact(HS.own.lt 4 (by omega) g h).2.2
       ·have:=HS.bN.lt;omega
      have MU:Hid (∀j,j<8→j≠4→(V j).ownBlock≠some g):=fun j hj hne e=>by
       rcases HAT.out with h|h
       ·exact HS.own.ap j 4 hj (by omega) hne g e h
       ·have:=(HS.own.lt j hj g e).2.1;omega
      have HV5:Hid (aD (fun q=>ws≤q∧q≠g) We A5 c5 t):=(vH.keep (S':=fun q=>ws≤q∧q≠g) Kr (fun q hq h=>⟨h,by
       rcases HAT.out with h2|h2
       ·have:=HRW g h2;omega
       ·omega⟩)).keep ⟨xZ.size,fun q hq hl=>xZ.block q hl (fun e=>by have:=HRW q e.symm;omega)⟩ (fun _ _ h=>h)
      clear vH;replace kY:Hid (ws≤We.heap.size):=Nat.le_trans kY xZ.size;replace HS:=Hd (HS.grown (k:=4) (by omega) xZ HAT);clear dN dO ku xZ HAT yV HZ Wc
      rename World=>Wc)
    |fail
   all_goals
    repeat
     (first|refine aI 0 (v:=?_) rfl ?hy ?_|refine aI 1 (v:=?_) rfl ?hy ?_|refine aI 2 (v:=?_) rfl ?hy ?_|refine aI 3 (v:=?_) rfl ?hy ?_|refine aI 5 (v:=?_) rfl ?hy ?_|refine aI 9 (v:=?_) rfl ?hy ?_|refine aI 10 (v:=?_) rfl ?hy ?_
      case hy=>
       intro w0 hS;clear hS;go_simp
       (first|done|with_reducible rfl)
      try simp only[Act.put,aT,aU,aV])
  all_goals refine wpAnyH_done (by decide +kernel) ?_ _
  all_goals
   refine NoPanic.normal ?_
   have hop:=HS.own.put (k:=4) (w':=Wc.setCell ⟨R,7,none⟩ (.slice (some ⟨g,0,none⟩) (nk+1) cap)) (e:=(kC l 4 (i+1)).1) (by omega) HOWN (by rw[FP]) hgR MU (fun _ h=>h.2) (S0:=fun q=>ws≤q∧q≠g) (by
    rw[HE]
    exact⟨_,rfl,A5,c5,by rw[EP],HV5⟩) (fun q _ h=>⟨by have:=KV.out;omega,by have:=BI.out;omega,h.2,fun j hj e=>by have:=SI j hj q e;omega⟩) (setAt _)
   have Ba:=HS.bN.put (k:=4) (by omega) (.slice (some ⟨g,0,none⟩) (nk+1) cap);have hbl:Below B w (Wc.setCell ⟨R,7,none⟩ (.slice (some ⟨g,0,none⟩) (nk+1) cap)):=HS.mW.setCell jU _;have hbg:=HS.big;obtain⟨WF,FU⟩:=aj (Wc.setCell ⟨R,7,none⟩ (.slice (some ⟨g,0,none⟩) (nk+1) cap));have hsF:WF.heap.size=Wc.heap.size:=by rw[FU];simp
   simp only[Nat.reduceAdd]at Ba;rw[←FU]at hop Ba hbl⊢;have gy:=Hd hop;have YC:=Hd Ba;have oU:=Hd hbl;clear hop Ba hbl FU;go_wp2_with fail;exact gI HF YC gy oU (HP.below oU HA) jU (by omega) (fun h=>by have:=Yy h;have:=HN.out;omega) _ (by first|exact Or.inl rfl|exact Or.inr rfl)
 ·rw[iN hlt,iN hlt]at hg;rw[iN hlt,iN hlt]at HF;have hs1:=hg.2.2;have hm:bO l 4 [59] i 18=(i,18):=rfl;rw[←hm]at HF;have fA:Hid (DS w B R (some ⟨b,off,none⟩) l.length c V X G i 18 (fun _=>True) (EW B R V) w1):=⟨hg.1,HM.move (fun q _ hl hR=>hg.2.1.block q hl hR) (Nat.le_of_eq hs1.symm),b_ (w:=w) ⟨hg.2.1.os,hg.2.1.tape,hg.2.1.output,Nat.le_of_eq hs1.symm,hg.2.1.block⟩ jU hBw,jU,by rw[hs1];exact hBw⟩;rw[dF hlt];clear hg hm c0 c1 x0 x2 hcm FQ HT0 hs1;go_wp2_with fail;exact gI HF fA.bN fA.own fA.mW (HP.below fA.mW HA) jU fA.big (fun _=>by omega) _ (by first|exact Or.inl rfl|exact Or.inr rfl)
theorem PG{o:Array Oper}{i:Nat}{x:Oper}(h:o.toList[i]?=some x):o[i]?=some x:=by simpa using h
theorem ahQ:(Tryz.prog.info? 69).map (fun i=>(i.zero,i.size,i.bytes))=some (some (.agg #[.string ⟨#[]⟩,.int .i64 0,.int .i64 0,.int .i64 0,.string ⟨#[]⟩,.slice none 0 0,.slice none 0 0]),7,104):=by kernel_rfl
section
variable {w w':World} {B R:Nat} {V:Nat→Value} {X:Nat→List (List Value)} {G:Nat→List El} {D S:Nat→Prop}
theorem qZ.YM{b:Nat}(h:qZ w B R V X G D S)(ho:Only (fun q=>q=b) w w')(hb:∀q,S q→q≠b)(hj:∀j,j<8→(V j).ownBlock≠some b):qZ w' B R V X G D S:=
 ⟨fun j IE hDj=>oC (h.own j IE hDj) (fun q hq=>ho.block q (h.lt j IE q hq).2.1 (fun e=>hj j IE (e ▸ hq))),
  fun j IE=>(h.vals j IE).keep ⟨ho.size,fun q hq hl=>ho.block q hl (hb q hq)⟩ (fun _ _ h=>h),h.sub,
  fun j IE q hq=>⟨(h.lt j IE q hq).1,lL (h.lt j IE q hq).2.1 ho.size,(h.lt j IE q hq).2.2⟩,h.ap⟩
theorem qZ.fresh{b:Nat}(h:qZ w B R V X G D S)(hb:Below w.heap.size w w')(he:b=w.heap.size):qZ w' B R V X G D (fun q=>S q∧q≠b):=
 ⟨fun j IE hDj=>oC (h.own j IE hDj) (fun q hq=>hb.block q (h.lt j IE q hq).2.1),
  fun j IE=>(h.vals j IE).keep ⟨hb.size,fun q hq hl=>hb.block q hl⟩ (fun q hl h=>⟨h,by omega⟩),fun q hq=>h.sub q hq.1,
  fun j IE q hq=>⟨(h.lt j IE q hq).1,lL (h.lt j IE q hq).2.1 hb.size,(h.lt j IE q hq).2.2⟩,h.ap⟩
variable {W W' w0:World} {n c i b:Nat} {A:Option Addr} {x:Int}
theorem DS.fresh(h:DS w0 B R A n c V X G i x D S W)(hb:Below W.heap.size W W')(he:b=W.heap.size):DS w0 B R A n c V X G i x D (fun q=>S q∧q≠b) W':=⟨h.bN.below hb h.bN.lt,h.own.fresh hb he,(h.below hb).mW,h.bR,Nat.le_trans h.big hb.size⟩
theorem DS.YM(h:DS w0 B R A n c V X G i x D S W)(ho:Only (fun q=>q=b) W W')(hb:∀q,S q→q≠b)(hj:∀j,j<8→(V j).ownBlock≠some b)(hbR:b≠R)(hbB:B≤b):DS w0 B R A n c V X G i x D S W':=
 ⟨(ho.block R h.bN.lt (fun e=>hbR e.symm)).trans h.bN,h.own.YM ho hb hj,h.mW.trans ⟨ho.os,ho.tape,ho.output,ho.size,fun q hq=>ho.block q (by have:=h.big;omega) (by omega)⟩,h.bR,Nat.le_trans h.big ho.size⟩
end
theorem ad_{l:List Tok}{i:Nat}{x:Int}(h:(ow l i x).2.2=0):(ow l i x).2.1≤l.length:=by
 unfold ow at h⊢
 by_cases hx:x≠0
 ·rw[iP hx]at h;exact absurd h hx
 ·rw[iN hx]at h⊢;exact(GJ (l:=l) (i:=i) (f:=(nN l i).1) (j:=(nN l i).2.1) (by rw[←h])).2.jl
theorem aea{W:World}{b:Nat}(v1 v2 v3 v4 v5 v6:Value):Only (fun q=>q=b) W ((((((W.setCell ⟨b,1,none⟩ v1).setCell ⟨b,2,none⟩ v2).setCell ⟨b,3,none⟩ v3).setCell ⟨b,4,none⟩ v4).setCell ⟨b,5,none⟩ v5).setCell ⟨b,6,none⟩ v6):=((((((setAt _).trans (setAt _)).trans (setAt _)).trans (setAt _)).trans (setAt _)).trans (setAt _))
theorem akD{W:World}{b:Nat}{u0 u1 u2 u3 u4 u5 u6 v1 v2 v3 v4 v5 v6:Value}{T:TypeId}(h:W.heap[b]?=some (.cells #[u0,u1,u2,u3,u4,u5,u6] T (0,0))):((((((W.setCell ⟨b,1,none⟩ v1).setCell ⟨b,2,none⟩ v2).setCell ⟨b,3,none⟩ v3).setCell ⟨b,4,none⟩ v4).setCell ⟨b,5,none⟩ v5).setCell ⟨b,6,none⟩ v6).heap[b]?=some (.cells #[u0,v1,v2,v3,v4,v5,v6] T (0,0)):=by
 simp[World.setCell,Array.getElem?_modify,h]
theorem YN(R:Nat)(A:Option Addr)(c i B:Nat)(l:List Tok)(V:Nat→Value)(X:Nat→List (List Value))(G:Nat→List El)(w:World)(hw:ah l i 3 (ji 7)=true)(hR:kF w R A l.length c i 0 V)(hP:iI w R A c l)(hM:BJ w B R V X G)(jU:B≤R)(hA:∀a,A=some a→a.block<B)(hG:(G 7).length≤64) :
 Calls Tryz.prog 15 #[.pointer (some ⟨R,0,none⟩)] w (qg R A c l B w (if (G 7).length<64 then bO l 4 [59] (kC l 7 (i+1)).2.1 (kC l 7 (i+1)).2.2 else(i,18)) (if (G 7).length<64 then upd G 7 (G 7++[(kC l 7 (i+1)).1])else G)):=by
 obtain⟨F,HF⟩:=ak (qg R A c l B w (if (G 7).length<64 then bO l 4 [59] (kC l 7 (i+1)).2.1 (kC l 7 (i+1)).2.2 else(i,18)) (if (G 7).length<64 then upd G 7 (G 7++[(kC l 7 (i+1)).1])else G));rw[←HF];have hlen:=hP.len;have hcap:=hP.cap;have aQ:=hP.bU;unfold maxLen at aQ;have HP:=Hd hP;obtain⟨b,off,Yw,hbR,hbw,hin,tx0,tx2⟩:=uL hP hw;obtain⟨a,cp,hV,hcp,Yx⟩:=hM.shape (k:=7) (by omega);obtain⟨nk,FP⟩:=ak (G 7).length;rw[←FP]at hV hcp hG HF;have hcm:=hR.cm (k:=7) (by omega);rw[hV]at hcm;have HV:=Hd hV;have HR:=Hd hR;have HM:=Hd hM;have c0:=hR.c0;have c1:=hR.c1;have fC:=hR.lt;have hBw:B≤w.heap.size:=by omega
 have hl0:0<l.length:=by omega
 have Iz:=Hd (fun W (hr:kF W R A l.length c (i+1) 0 V) (hb:Below B w W)=>I9 R A c (i+1) l 0 V W hr (HP.below hb hA) (by omega));have hl1:=Hf (x:=0) (show i+1≤l.length by omega);have ru:Hid (kC l 7 (i+1)=(.spec ⟨(bX l (i+1) 0).1,(ow l (bO l 4 [58] (bX l (i+1) 0).2.1 (bX l (i+1) 0).2.2).1 (bO l 4 [58] (bX l (i+1) 0).2.1 (bX l (i+1) 0).2.2).2).1⟩,(ow l (bO l 4 [58] (bX l (i+1) 0).2.1 (bX l (i+1) 0).2.2).1 (bO l 4 [58] (bX l (i+1) 0).2.1 (bX l (i+1) 0).2.2).2).2)):=rfl
 generalize bX l (i+1) 0=na at Iz hl1 ru
 obtain⟨s,i1,x1⟩:=na;have Rw:=Hd (fun W (hr:kF W R A l.length c i1 x1 V) (hb:Below B w W)=>DU R A c i1 l x1 V 4 ⟨#[58]⟩ W hr (HP.below hb hA) (fun _=>by simp only at hl1;omega));rw[show bs ⟨#[58]⟩=[58]from rfl]at Rw;have hl2:=zX (l:=l) (k:=4) (s:=[58]) (x:=x1) hl1
 generalize bO l 4 [58] i1 x1=nb at Rw hl2 ru
 obtain⟨i2,x2⟩:=nb;have HT0:=Hd (fun W (hr:kF W R A l.length c i2 x2 V) (hb:Below B w W)=>ab2 R A c i2 l x2 V W hr (HP.below hb hA) hl2 hl0);have FQ:=Hd (fun m=>qL R A l.length c i nk V (w.drewN m) hR (by omega) (by omega));obtain⟨n,HN⟩:=ak l.length;rw[←HN]at c0 hcap hin hlen;have hk0:(0:Int)≤(i:Int):=by omega
 have hk1:(i:Int)<(n:Int):=by omega
 have HA:=Hd hA;subst Yw;clear hA hV hR hP hM hw;simp only[ji,pI,Nat.reduceAdd]at tx2 hcm
 go_enter_defers Tryz.func15,Tryz.ntmps15
 go_wp2_with fail
 go_quiet (fail)
 go_wp2_with fail
 go_quiet (fail)
 go_wp2_with fail;refine(FQ _).mono ?_;rintro e w1 ⟨rfl,hg⟩
 by_cases hlt:nk<64
 ·rw[iP hlt,iP hlt]at hg;rw[iP hlt,iP hlt]at HF;have hdt:decide (nk<64)=true:=decide_eq_true hlt;have hs1:=hg.2.2;have fA:Hid (DS w B R (some ⟨b,off,none⟩) l.length c V X G (i+1) 0 (fun _=>True) (EW B R V) w1):=⟨hg.1,HM.move (fun q _ hl hR=>hg.2.1.block q hl hR) (Nat.le_of_eq hs1.symm),b_ (w:=w) ⟨hg.2.1.os,hg.2.1.tape,hg.2.1.output,Nat.le_of_eq hs1.symm,hg.2.1.block⟩ jU hBw,jU,by rw[hs1];exact hBw⟩;clear hg;obtain⟨i0,hi0,hz0,hz1,hz2⟩:=info_parts ahQ;have zy:Hid ((ow l i2 x2).2.2=0→(ow l i2 x2).2.1≤l.length):=ad_
  generalize ow l i2 x2=tt at HT0 ru zy
  obtain⟨t,j,y⟩:=tt;simp only at HT0 ru zy Iz Rw hl1;have HE:Hid ((kC l 7 (i+1)).1=.spec ⟨s,t⟩):=by show _=_;rw[ru]
  have HE2:Hid ((kC l 7 (i+1)).2=(j,y)):=by show _=_;rw[ru]
  rw[HE2]at HF;simp only at HF;have Yy:=zy;clear ru HE2 zy;rw[hdt];clear hdt;obtain⟨ws,hws⟩:=aj w1.heap.size;have ajy:Hid (ws≤w1.heap.size):=by show _≤_;rw[hws];exact lr _
  have HRW:Hid (∀q,(V 7).ownBlock=some q→q<ws):=fun q hq=>by rw[hws];exact(fA.own.lt 7 (by omega) q hq).2.1
  have SI:Hid (∀j,j<8→∀q,(V j).ownBlock=some q→q<ws):=fun j hj q hq=>by rw[hws];exact(fA.own.lt j hj q hq).2.1
  have KV:Hid (B≤ws):=by show _≤_;rw[hws];exact fA.big
  have BI:Hid (R<ws):=by show _<_;rw[hws];exact fA.bN.lt
  clear hws c0 c1 tx0 tx2 hcm FQ hs1 hl1 hl2;go_wp2_with fail;refine(Iz _ fA.bN fA.mW).mono ?_;rintro e w2 ⟨rfl,hg⟩;have HS2:=Hd (fA.only hg.1 hg.2.1);have HZ2:Hid (w1.heap.size=w2.heap.size):=hg.2.2.symm;clear hg Iz;go_wp2_with fail;obtain⟨b4,hb4⟩:=aj w2.heap.size;obtain⟨w3,hw3⟩:=aj (w2.alloc (.cells #[.string s,.int .i64 0,.int .i64 0,.int .i64 0,.string ⟨#[]⟩,.slice none 0 0,.slice none 0 0] 69));have X4:=jZ hw3 hb4;have Oc:=Hd (HS2.fresh (dz hw3) hb4);have al4:ws≤b4:=by have:=ajy.out;have:=HZ2.out;omega
  rw[←hw3,←hb4];clear hw3 hb4 HZ2;refine(Rw _ Oc.bN Oc.mW).mono ?_;rintro e w4 ⟨rfl,hg⟩;have ahR:b4≠R:=by have:=BI.out;omega
  replace X4:=Hd ((hg.2.1.block b4 (lH X4) ahR).trans X4);have zQ:=Hd (Oc.only hg.1 hg.2.1);clear hg Rw;go_wp2_with fail;refine(HT0 _ zQ.bN zQ.mW).mono ?_;rintro e w5 ⟨⟨x,rfl,hv⟩,hg⟩;have vH:Hid (x.Is (fun q=>ws≤q∧q≠b4) w5 t):=hv.keep Kr (fun q _ h=>by have:=lH X4;omega);replace X4:=Hd ((hg.2.block b4 (lH X4) ahR).trans X4);have HS5:=Hd (zQ.only hg.1 hg.2);simp only[FV.val];obtain⟨k0,k1,k2,k3,k4,k5,k6,kz⟩:=q7 X4;have hkl:=lH X4;clear hv hg HT0;go_wp2_with fail;clear k0 k1 k2 k3 k4 k5 k6 kz hkl;obtain⟨w6,mV⟩:=aj (((((((w5.setCell ⟨b4,1,none⟩ (.int .i64 x.o)).setCell ⟨b4,2,none⟩ (.int .i64 x.tn)).setCell ⟨b4,3,none⟩ (.int .i64 x.tm)).setCell ⟨b4,4,none⟩ (.string x.s)).setCell ⟨b4,5,none⟩ (.slice x.Ae x.ne x.ce)).setCell ⟨b4,6,none⟩ (.slice x.A x.n x.c)));have iX:Only (fun q=>q=b4) w5 w6:=by rw[mV];exact aea _ _ _ _ _ _
  replace X4:Hid (w6.heap[b4]?=some (.cells #[.string s,.int .i64 x.o,.int .i64 x.tn,.int .i64 x.tm,.string x.s,.slice x.Ae x.ne x.ce,.slice x.A x.n x.c] 69 (0,0))):=by show _=_;rw[mV];exact akD X4
  have HS6:=Hd (HS5.YM iX (fun _ h=>h.2) (fun j hj e=>by have:=SI j hj b4 e;omega) ahR (by have:=KV.out;omega));replace vH:Hid (x.Is (fun q=>ws≤q∧q≠b4) w6 t):=vH.keep (aR.cO iX (by simp)) (fun _ _ h=>h);rw[←mV];clear mV iX;refine wp_region_noPanic ?_;refine wp_region_held_drew (S:=fun W=>W.heap[b4]?=some (.cells #[.string s,.int .i64 x.o,.int .i64 x.tn,.int .i64 x.tm,.string x.s,.slice x.Ae x.ne x.ce,.slice x.A x.n x.c] 69 (0,0))) (by kernel_rfl) X4 (fun hHeld=>?_);have Yz:(0:Int)≤(nk:Int):=by omega
  have YA:(nk:Int)<(nk:Int)+1:=by omega
  obtain⟨Wc,hWc⟩:=aj w6.drew;have HS:=Hd (HS6.only (W':=Wc) (by rw[hWc];exact HS6.bN.drewN 1) (by rw[hWc];exact Only.refl.drewN 1));have kY:Hid (ws≤Wc.heap.size):=by show _≤_;have:=lH X4;rw[hWc];show ws≤w6.heap.size;omega
  replace vH:Hid (x.Is (fun q=>ws≤q∧q≠b4) Wc t):=by show FV.Is _ _ _ _;rw[hWc];exact vH.keep ⟨lr _,fun _ _ _=>rfl⟩ (fun _ _ h=>h)
  replace X4:Hid (Wc.heap[b4]?=some (.cells #[.string s,.int .i64 x.o,.int .i64 x.tn,.int .i64 x.tm,.string x.s,.slice x.Ae x.ne x.ce,.slice x.A x.n x.c] 69 (0,0))):=by show _=_;rw[hWc];exact X4
  rw[←hWc]at hHeld⊢;clear hWc fA HS2 Oc zQ HS5 HS6 ajy
  repeat
   (first|refine aI 0 (v:=?_) rfl ?hy ?_|refine aI 1 (v:=?_) rfl ?hy ?_|refine aI 2 (v:=?_) rfl ?hy ?_|refine aI 3 (v:=?_) rfl ?hy ?_|refine aI 5 (v:=?_) rfl ?hy ?_|refine aI 8 (v:=?_) rfl ?hy ?_|refine aI 9 (v:=?_) rfl ?hy ?_
    case hy=>
     intro w0 hS;obtain⟨k0,k1,k2,k3,k4,k5,k6,kz⟩:=q7 hS;clear hS;go_simp
     (first|done|with_reducible rfl)
    try simp only[Act.put,aT,aU,aV])
  iterate 4
   all_goals first
    |refine Rd (rs:=[4,6]) (by decide +kernel) (by simp) (Rc (PG rfl) (fun K hK=>?_) (Rc (PG rfl) (fun K hK=>?_) Rn))
    |refine Rd (rs:=[6]) (by decide +kernel) (by simp) (Rc (PG rfl) (fun K hK=>?_) Rn)
    |refine Rd (rs:=[4]) (by decide +kernel) (by simp) (Rc (PG rfl) (fun K hK=>?_) Rn)
    |refine Rd (rs:=[7]) (by decide +kernel) (by simp) (Rc (PG rfl) (fun K hK=>?_) Rn)
    |refine Rd (rs:=[10]) (by decide +kernel) (by simp) (Rc (PG rfl) (fun K hK=>?_) Rn)
    |fail
   all_goals first
    |(refine Tj ?_
      have y3:=HS.bN.cm (k:=7) (by omega);rw[HV]at y3;simp only[Nat.reduceAdd]at y3;go_simp;clear y3 hHeld;refine hK.out _ Wc (X4) (fun hHeld=>?_);clear hK K
      try simp only[Act.put,aT,aU,aV])
    |(refine QI ?_
      go_simp;clear hHeld;refine hK.out _ (Wc.alloc (.cells #[.string s,.int .i64 x.o,.int .i64 x.tn,.int .i64 x.tm,.string x.s,.slice x.Ae x.ne x.ce,.slice x.A x.n x.c] 69)) ((((Br _ _).alloc (lr _) _).block b4 (lH X4)).trans X4) (fun hHeld=>?_);clear hK K;(try simp only[Act.put,aT,aU,aV]);obtain⟨z,hz⟩:=aj Wc.heap.size;obtain⟨We,hV⟩:=aj (Wc.alloc (.cells #[.string s,.int .i64 x.o,.int .i64 x.tn,.int .i64 x.tm,.string x.s,.slice x.Ae x.ne x.ce,.slice x.A x.n x.c] 69));have hb5:=dz hV;have HZ:=jZ hV hz;replace vH:Hid (x.Is (fun q=>ws≤q∧q≠b4) We t):=vH.keep (Kb hb5) (fun _ _ h=>h);replace X4:=kX hb5 X4;replace HS:=Hd (HS.below hb5);replace kY:Hid (ws≤We.heap.size):=Nat.le_trans kY hb5.size;rw[←hV]at hHeld;rw[←hV,←hz];clear hV hz hb5 hHeld;have hHeld:=X4.out;clear Wc
      rename World=>Wc)
    |(refine Gw ?_
      have y3:=HS.bN.cm (k:=7) (by omega);have f3:=HS.bN.frozen (3+7);have FT:=HS.bN.lt;simp only[Nat.reduceAdd]at y3 f3;go_simp;clear y3 f3 FT hHeld;refine hK.out _ _ ((iw Wc ⟨R,10,none⟩ b4 _ (by show b4≠R;have:=BI.out;omega)).trans X4) (fun hHeld=>?_);clear hK K
      try simp only[Act.put,aT,aU,aV])
    |(refine step_append_lies _ (by rfl) _ _ _ (by rfl) B 69 i0 (.agg #[.string ⟨#[]⟩,.int .i64 0,.int .i64 0,.int .i64 0,.string ⟨#[]⟩,.slice none 0 0,.slice none 0 0]) 7 104 Tryz.underlying26 hi0 hz0 hz1 hz2 rfl (by decide) (.slice a nk cp) nk (X 7).flatten (by rfl) (by have h:=HS.own.own 7 (by omega) trivial;rw[HV,←FP]at h;exact h) ⟨z,0,none⟩ 1 1 [.string s,.int .i64 x.o,.int .i64 x.tn,.int .i64 x.tm,.string x.s,.slice x.Ae x.ne x.ce,.slice x.A x.n x.c] (by rfl) (by rfl) (World.news_of_block HZ) (by simp[Value.oneCell']) (by decide) (by unfold maxLen;omega) (by omega) HS.big _ rfl ?_
      intro g cap We dN dO ku yV;have hx4:We.heap[b4]?=some (.cells #[.string s,.int .i64 x.o,.int .i64 x.tn,.int .i64 x.tm,.string x.s,.slice x.Ae x.ne x.ce,.slice x.A x.n x.c] 69 (0,0)):=(dO.block b4 (lH X4) (fun e=>by have:=HRW b4 (by rw[HV];exact e.symm);omega)).trans X4;clear hHeld;refine hK.out _ We (hx4) (fun hHeld=>?_);clear hK K;(try simp only[Act.put,aT,aU,aV]);have xZ:Hid (Wc.grownBy We (V 7).ownBlock):=by show World.grownBy _ _ _;rw[HV];exact dO
      have HAT:Hid ((V 7).ownBlock=some g∨g=Wc.heap.size):=by show _∨_;rw[HV];exact ku
      have HOWN:=Hd dN
      have hgR:g≠R:=by
       rcases HAT.out with h|h
       ·exact(HS.own.lt 7 (by omega) g h).2.2
       ·have:=HS.bN.lt;omega
      have MU:Hid (∀j,j<8→j≠7→(V j).ownBlock≠some g):=fun j hj hne e=>by
       rcases HAT.out with h|h
       ·exact HS.own.ap j 7 hj (by omega) hne g e h
       ·have:=(HS.own.lt j hj g e).2.1;omega
      have HV5:Hid (x.Is (fun q=>ws≤q∧q≠g) We t):=(vH.keep (S':=fun q=>ws≤q∧q≠g) Kr (fun q hq h=>⟨h.1,by
       rcases HAT.out with h2|h2
       ·have:=HRW g h2;omega
       ·omega⟩)).keep ⟨xZ.size,fun q hq hl=>xZ.block q hl (fun e=>by have:=HRW q e.symm;omega)⟩ (fun _ _ h=>h)
      clear vH;replace kY:Hid (ws≤We.heap.size):=Nat.le_trans kY xZ.size;have ajz:Hid (b4<Wc.heap.size):=lH X4;replace HS:=Hd (HS.grown (k:=7) (by omega) xZ HAT);clear X4;have X4:=Hd hx4
      have BS:Hid (b4≠g):=by
       rcases HAT.out with h2|h2
       ·have:=HRW g h2;show _≠_;omega
       ·have:=ajz.out;show _≠_;omega
      clear dN dO ku xZ HAT yV HZ hHeld hx4 ajz Wc;rename World=>Wc
      have hHeld:=X4.out)
    |fail
   all_goals
    repeat
     (first|refine aI 0 (v:=?_) rfl ?hy ?_|refine aI 1 (v:=?_) rfl ?hy ?_|refine aI 2 (v:=?_) rfl ?hy ?_|refine aI 3 (v:=?_) rfl ?hy ?_|refine aI 5 (v:=?_) rfl ?hy ?_|refine aI 8 (v:=?_) rfl ?hy ?_|refine aI 9 (v:=?_) rfl ?hy ?_
      case hy=>
       intro w0 hS;obtain⟨k0,k1,k2,k3,k4,k5,k6,kz⟩:=q7 hS;clear hS;go_simp
       (first|done|with_reducible rfl)
      try simp only[Act.put,aT,aU,aV])
  all_goals refine wpAnyH_done (by decide +kernel) ?_ _
  all_goals
   refine NoPanic.normal ?_
   have hop:=HS.own.put (k:=7) (w':=Wc.setCell ⟨R,10,none⟩ (.slice (some ⟨g,0,none⟩) (nk+1) cap)) (e:=(kC l 7 (i+1)).1) (by omega) HOWN (by rw[FP]) hgR MU (fun _ h=>h.2) (S0:=fun q=>ws≤q∧q≠g) (by
    rw[HE]
    exact⟨x,rfl,HV5⟩) (fun q _ h=>⟨by have:=KV.out;omega,by have:=BI.out;omega,h.2,fun j hj e=>by have:=SI j hj q e;omega⟩) (setAt _)
   have Ba:=HS.bN.put (k:=7) (by omega) (.slice (some ⟨g,0,none⟩) (nk+1) cap);have hbl:Below B w (Wc.setCell ⟨R,10,none⟩ (.slice (some ⟨g,0,none⟩) (nk+1) cap)):=HS.mW.setCell jU _;have hbg:=HS.big;obtain⟨WF,FU⟩:=aj (Wc.setCell ⟨R,10,none⟩ (.slice (some ⟨g,0,none⟩) (nk+1) cap));have hsF:WF.heap.size=Wc.heap.size:=by rw[FU];simp
   simp only[Nat.reduceAdd]at Ba;rw[←FU]at hop Ba hbl⊢;have gy:=Hd hop;have YC:=Hd Ba;have oU:=Hd hbl;clear hop Ba hbl FU;go_wp2_with fail;exact gI HF YC gy oU (HP.below oU HA) jU (by omega) (fun h=>by have:=Yy h;have:=HN.out;omega) _ (by first|exact Or.inl rfl|exact Or.inr rfl)
 ·rw[iN hlt,iN hlt]at hg;rw[iN hlt,iN hlt]at HF;have hs1:=hg.2.2;have hm:bO l 4 [59] i 18=(i,18):=rfl;rw[←hm]at HF;have fA:Hid (DS w B R (some ⟨b,off,none⟩) l.length c V X G i 18 (fun _=>True) (EW B R V) w1):=⟨hg.1,HM.move (fun q _ hl hR=>hg.2.1.block q hl hR) (Nat.le_of_eq hs1.symm),b_ (w:=w) ⟨hg.2.1.os,hg.2.1.tape,hg.2.1.output,Nat.le_of_eq hs1.symm,hg.2.1.block⟩ jU hBw,jU,by rw[hs1];exact hBw⟩;rw[dF hlt];clear hg hm c0 c1 tx0 tx2 hcm FQ HT0 hs1;go_wp2_with fail;exact gI HF fA.bN fA.own fA.mW (HP.below fA.mW HA) jU fA.big (fun _=>by omega) _ (by first|exact Or.inl rfl|exact Or.inr rfl)
end Go.Proofs.YtkhoeoilamddaaaGreatDoor
