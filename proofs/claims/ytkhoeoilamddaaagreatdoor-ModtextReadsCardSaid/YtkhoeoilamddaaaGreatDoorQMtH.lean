/- Walk: modtext's reader.declaration at init, invar, trans, fair. -/
import Derived.Test.YtkhoeoilamddaaaGreatDoorQMtG
namespace Go.Proofs.YtkhoeoilamddaaaGreatDoor
open Go.RowKit
set_option linter.unusedVariables false
set_option linter.unusedSimpArgs false
set_option maxRecDepth 100000
set_option maxHeartbeats 16000000
theorem uM{o:Array Oper}{i:Nat}{x:Oper}(h:o.toList[i]?=some x):o[i]?=some x:=by simpa using h
theorem Hg{l:List Tok}{i:Nat}{x:Int}(h:(dK l i x).2.2=0):(dK l i x).2.1≤l.length:=by
 unfold dK at h⊢
 by_cases hx:x≠0
 ·rw[iP hx]at h;exact absurd h hx
 ·rw[iN hx]at h⊢;exact(wM (l:=l) (i:=i) (t:=(iU l i).1) (j:=(iU l i).2.1) (by rw[←h])).2.jl
theorem YL(k:Nat)(hk:k=2∨k=3∨k=5∨k=6)(R:Nat)(A:Option Addr)(c i B:Nat)(l:List Tok)(V:Nat→Value)(X:Nat→List (List Value))(G:Nat→List El)(w:World)(hw:ah l i 3 (ji k)=true)(hR:kF w R A l.length c i 0 V)(hP:iI w R A c l)(hM:BJ w B R V X G)(jU:B≤R)(hA:∀a,A=some a→a.block<B)(hG:(G k).length≤64) :
 Calls Tryz.prog 15 #[.pointer (some ⟨R,0,none⟩)] w (qg R A c l B w (if (G k).length<64 then bO l 4 [59] (kC l k (i+1)).2.1 (kC l k (i+1)).2.2 else(i,18)) (if (G k).length<64 then upd G k (G k++[(kC l k (i+1)).1])else G)):=by
 obtain⟨F,HF⟩:=ak (qg R A c l B w (if (G k).length<64 then bO l 4 [59] (kC l k (i+1)).2.1 (kC l k (i+1)).2.2 else(i,18)) (if (G k).length<64 then upd G k (G k++[(kC l k (i+1)).1])else G));rw[←HF];have hlen:=hP.len;have aE:=hP.cap;have aQ:=hP.bU;unfold maxLen at aQ;have HP:=Hd hP;obtain⟨b,off,Yw,bo,br,bk,x0,x2⟩:=uL hP hw;obtain⟨a,cp,hV,bi,Yx⟩:=hM.shape (k:=k) (by omega);obtain⟨O,FP⟩:=ak (G k).length;rw[←FP]at hV bi hG HF;have ao:=hR.cm (k:=k) (by omega);rw[hV]at ao;have HV:=Hd hV;have HR:=Hd hR;have HM:=Hd hM;have c0:=hR.c0;have c1:=hR.c1;have fC:=hR.lt;have ar:B≤w.heap.size:=by omega
 have bl:0<l.length:=by omega
 have ai:Hid (∀W,kF W R A l.length c (i+1) 0 V→Below B w W→Calls Tryz.prog 42 #[.pointer (some ⟨R,0,none⟩)] W (fun e w'=>(∃A5 c5,e=.returned ((dK l (i+1) 0).1.val A5 c5)∧aD (fun q=>W.heap.size≤q) w' A5 c5 (dK l (i+1) 0).1)∧Er R A l.length c V (dK l (i+1) 0).2.1 (dK l (i+1) 0).2.2 W w')):=fun W hr hb=>zW R A c (i+1) l 0 V W hr (HP.below hb hA) (by omega) bl;have FQ:=Hd (fun m=>qL R A l.length c i O V (w.drewN m) hR (by omega) (by omega));obtain⟨n,HN⟩:=ak l.length;rw[←HN]at c0 aE bk hlen;have bu:(0:Int)≤(i:Int):=by omega
 have bv:(i:Int)<(n:Int):=by omega
 have HA:=Hd hA;subst Yw;clear hA hV hR hP hM hw;have kL:k<8:=by omega
 rcases hk with hk|hk|hk|hk
 all_goals
  have HK:=Hd hk;have a6:Hid (mT k=64):=by show _=_;rw[hk];rfl
  have aS:Hid (mS k=4):=by show _=_;rw[hk];rfl
  rw[hk]at x2 ao;simp only[ji,iA,eZ,fP,jL,Nat.reduceAdd]at x2 ao;clear hk
  go_enter_defers Tryz.func15,Tryz.ntmps15
  go_wp2_with fail
  go_quiet (fail)
  go_wp2_with fail
  go_quiet (fail)
  go_wp2_with fail;refine(FQ _).mono ?_;rintro e w1 ⟨rfl,hg⟩
  by_cases Y:O<64
  ·rw[iP Y,iP Y]at hg;rw[iP Y,iP Y]at HF;have ba:decide (O<64)=true:=decide_eq_true Y;have aa:=hg.2.2;have fA:Hid (DS w B R (some ⟨b,off,none⟩) l.length c V X G (i+1) 0 (fun _=>True) (EW B R V) w1):=⟨hg.1,HM.move (fun q _ hl hR=>hg.2.1.block q hl hR) (Nat.le_of_eq aa.symm),b_ (w:=w) ⟨hg.2.1.os,hg.2.1.tape,hg.2.1.output,Nat.le_of_eq aa.symm,hg.2.1.block⟩ jU ar,jU,by rw[aa];exact ar⟩;clear hg;obtain⟨i0,bj,bm,bn,ay⟩:=info_parts Cv;have ru:Hid (kC l k (i+1)=(cT k (dK l (i+1) 0).1,(dK l (i+1) 0).2)):=by show _=_;rw[HK];rfl
   have zy:Hid ((dK l (i+1) 0).2.2=0→(dK l (i+1) 0).2.1≤l.length):=Hg
   generalize dK l (i+1) 0=tt at ai ru zy
   obtain⟨t,j,y⟩:=tt;simp only at ai ru zy;have HE:Hid ((kC l k (i+1)).1=cT k t):=by show _=_;rw[ru]
   have aP:Hid ((kC l k (i+1)).2=(j,y)):=by show _=_;rw[ru]
   rw[aP]at HF;simp only at HF;have Yy:=zy;clear ru aP zy;rw[ba];clear ba;go_wp2_with fail;refine wp_region_noPanic ?_;refine wp_region_held_drew (S:=fun _=>True) (by kernel_rfl) trivial (fun _=>?_);have hT:True:=trivial;have Yz:(0:Int)≤(O:Int):=by omega
   have YA:(O:Int)<(O:Int)+1:=by omega
   obtain⟨I,av⟩:=aj w1.drew;have J:Hid (DS w B R (some ⟨b,off,none⟩) l.length c V X G (i+1) 0 (fun _=>True) (EW B R V) I):=by show DS _ _ _ _ _ _ _ _ _ _ _ _ _ _;rw[av];exact fA.only (fA.bN.drewN 1) (Only.refl.drewN 1)
   obtain⟨ws,af⟩:=aj w1.heap.size;have kY:Hid (ws≤I.heap.size):=by show _≤_;rw[af,av];exact lr _
   have a7:Hid (∀q,(V k).ownBlock=some q→q<ws):=fun q hq=>by rw[af];exact(fA.own.lt k kL q hq).2.1
   have SI:Hid (∀j,j<8→∀q,(V j).ownBlock=some q→q<ws):=fun j hj q hq=>by rw[af];exact(fA.own.lt j hj q hq).2.1
   have KV:Hid (B≤ws):=by show _≤_;rw[af];exact fA.big
   have BI:Hid (R<ws):=by show _<_;rw[af];exact fA.bN.lt
   have HT:=ai;rw[←av];clear av af fA ai c0 c1 x0 x2 ao FQ aa
   repeat
    (first|refine aI 0 (v:=?_) rfl ?hy ?_|refine aI 1 (v:=?_) rfl ?hy ?_|refine aI 2 (v:=?_) rfl ?hy ?_|refine aI 4 (v:=?_) rfl ?hy ?_|refine aI 6 (v:=?_) rfl ?hy ?_|refine aI 9 (v:=?_) rfl ?hy ?_|refine aI 11 (v:=?_) rfl ?hy ?_|refine aI 12 (v:=?_) rfl ?hy ?_
     case hy=>
      intro w0 hS;clear hS;go_simp
      (first|done|with_reducible rfl)
     try simp only[Act.put,aT,aU,aV])
   iterate 6
    all_goals first
     |refine Rd (rs:=[3,5,7]) (by decide +kernel) (by simp) (Rc (uM rfl) (fun K hK=>?_) (Rc (uM rfl) (fun K hK=>?_) (Rc (uM rfl) (fun K hK=>?_) Rn)))
     |refine Rd (rs:=[5,7]) (by decide +kernel) (by simp) (Rc (uM rfl) (fun K hK=>?_) (Rc (uM rfl) (fun K hK=>?_) Rn))
     |refine Rd (rs:=[3,7]) (by decide +kernel) (by simp) (Rc (uM rfl) (fun K hK=>?_) (Rc (uM rfl) (fun K hK=>?_) Rn))
     |refine Rd (rs:=[3,5]) (by decide +kernel) (by simp) (Rc (uM rfl) (fun K hK=>?_) (Rc (uM rfl) (fun K hK=>?_) Rn))
     |refine Rd (rs:=[10,13]) (by decide +kernel) (by simp) (Rc (uM rfl) (fun K hK=>?_) (Rc (uM rfl) (fun K hK=>?_) Rn))
     |refine Rd (rs:=[7]) (by decide +kernel) (by simp) (Rc (uM rfl) (fun K hK=>?_) Rn)
     |refine Rd (rs:=[5]) (by decide +kernel) (by simp) (Rc (uM rfl) (fun K hK=>?_) Rn)
     |refine Rd (rs:=[3]) (by decide +kernel) (by simp) (Rc (uM rfl) (fun K hK=>?_) Rn)
     |refine Rd (rs:=[8]) (by decide +kernel) (by simp) (Rc (uM rfl) (fun K hK=>?_) Rn)
     |refine Rd (rs:=[13]) (by decide +kernel) (by simp) (Rc (uM rfl) (fun K hK=>?_) Rn)
     |refine Rd (rs:=[10]) (by decide +kernel) (by simp) (Rc (uM rfl) (fun K hK=>?_) Rn)
     |fail
    all_goals first
     |(refine Tj ?_
       have y3:=J.bN.cm (k:=k) kL;rw[HV,HK]at y3;simp only[Nat.reduceAdd]at y3;go_simp;clear y3;refine hK.out _ I trivial (fun _=>?_);clear hK K
       try simp only[Act.put,aT,aU,aV])
     |(refine WE ?_
       go_simp;(with_reducible refine(HT.out _ J.out.bN J.out.mW).mono ?_);rintro e We ⟨⟨A5,c5,rfl,aJ⟩,ae⟩;simp only[Tm.val];obtain⟨n5,EP⟩:=ak t.kids.length;rw[←EP];refine hK.out _ _ trivial (fun _=>?_);clear hK K;(try simp only[Act.put,aT,aU,aV]);have bf:=ae.2.size
       first
        |(have ab:Hid (aD (fun q=>ws≤q∧q≠g) We A5 c5 t):=aJ.keep Kr (fun q _ h=>by have:=(D.lt g rfl).2;have:=kY.out;omega)
          have bd:=oC D (fun q hq=>ae.2.block q (D.lt q hq).2 (fun e=>by have e2:g=q:=(by simpa[Value.ownBlock]using hq);omega));clear D;have D:=Hd bd
          clear bd)
        |(have vH:Hid (aD (fun q=>ws≤q) We A5 c5 t):=aJ.keep Kr (fun q _ h=>by have:=kY.out;omega))
       first
        |(have ay:=(ae.2.block z (lH HZ) Ul).trans HZ
          clear HZ;have HZ:=Hd ay
          clear ay)
        |skip
       replace J:=Hd (J.only ae.1 ae.2);replace kY:Hid (ws≤We.heap.size):=Nat.le_trans kY bf;clear aJ ae bf I
       rename World=>I)
     |(refine QI ?_
       go_simp;refine hK.out _ (I.alloc (.cells #[.int .i64 0,.int .i64 0,.string ⟨#[]⟩,.slice none 0 0] 64)) trivial (fun _=>?_);clear hK K;(try simp only[Act.put,aT,aU,aV]);obtain⟨z,hz⟩:=aj I.heap.size;obtain⟨We,hV⟩:=aj (I.alloc (.cells #[.int .i64 0,.int .i64 0,.string ⟨#[]⟩,.slice none 0 0] 64));have Ul:z≠R:=by have:=J.bN.lt;omega
       have aw:=dz hV;have HZ:=jZ hV hz
       first
        |(have bg:=vH.keep (Kb aw) (fun _ _ h=>h)
          clear vH;have vH:=Hd bg
          clear bg)
        |skip
       replace J:=Hd (J.below aw);replace kY:Hid (ws≤We.heap.size):=Nat.le_trans kY aw.size;rw[←hV,←hz];clear hV hz aw I
       rename World=>I)
     |(refine Gw ?_
       have y3:=J.bN.cm (k:=k) kL;have f3:=J.bN.frozen (3+k);have FT:=J.bN.lt;rw[HK]at y3 f3;simp only[Nat.reduceAdd]at y3 f3;go_simp;clear y3 f3 FT;refine hK.out _ _ trivial (fun _=>?_);clear hK K;(try simp only[Act.put,aT,aU,aV]);obtain⟨bh,-⟩:∃n:Nat,n=n:=⟨0,rfl⟩
       first
        |have:=G7
        |(obtain⟨W9,CK⟩:=aj (I.setCell ⟨R,3+k,none⟩ (.slice (some ⟨g,0,none⟩) (O+1) cap))
          have fM:=Hd (oC (w':=W9) D (fun q hq=>by rw[CK];exact iw I ⟨R,3+k,none⟩ q _ (by have e2:g=q:=(by simpa[Value.ownBlock]using hq);show q≠R;omega)));rw[HK]at CK;simp only[Nat.reduceAdd]at CK;rw[←CK];have a8:=Hd CK
          clear CK))
     |(refine Gw ?_
       have Pf:Hid ((X k).flatten.length=O*4):=by
        have h:=D.1;simp only[List.length_append,List.length_cons,List.length_nil]at h;show _=_;omega
       first
        |(obtain⟨y0,y1,y2,y3,yz⟩:=qP fM Pf
          have bb:=(fM.lt g rfl).2)
        |(obtain⟨y0,y1,y2,y3,yz⟩:=qP D Pf
          have bb:=(D.lt g rfl).2)
       go_simp;clear y0 y1 y2 y3 yz bb;refine hK.out _ _ trivial (fun _=>?_);clear hK K;(try simp only[Act.put,aT,aU,aV]);obtain⟨G7,-⟩:∃n:Nat,n=n:=⟨0,rfl⟩
       first
        |have:=bh
        |(obtain⟨We,A_⟩:=aj ((((I.setCell ⟨g,O*4,none⟩ (.int .i64 t.op)).setCell ⟨g,O*4+1,none⟩ (.int .i64 t.num)).setCell ⟨g,O*4+2,none⟩ (.string t.name)).setCell ⟨g,O*4+3,none⟩ (.slice A5 n5 c5))
          have ho:Only (fun q=>q=g) I We:=by rw[A_];exact CP _ _ _ _
          have iC:We.ownsRow B 64 4 (.slice (some ⟨g,0,none⟩) (O+1) cap) (O+1) ((X k).flatten++[.int .i64 t.op,.int .i64 t.num,.string t.name,.slice A5 n5 c5]):=by rw[A_];exact qO D Pf
          replace ab:Hid (aD (fun q=>ws≤q∧q≠g) We A5 c5 t):=ab.keep (aR.cO ho (by simp)) (fun _ _ h=>h);replace J:=Hd (J.aside ho (fun _ h=>h.2) MU ax (D.lt g rfl).1);replace kY:Hid (ws≤We.heap.size):=Nat.le_trans kY ho.size;clear D;have D:=Hd iC;rw[←A_];clear A_ ho iC I
          rename World=>I))
     |(refine step_append_lies _ (by rfl) _ _ _ (by rfl) B 64 i0 (.agg #[.int .i64 0,.int .i64 0,.string ⟨#[]⟩,.slice none 0 0]) 4 56 Tryz.underlying25 bj bm bn ay rfl (by decide) (.slice a O cp) O (X k).flatten (by rfl) (by have h:=J.own.own k kL trivial;rw[HV,←FP,a6,aS]at h;exact h) ⟨z,0,none⟩ 1 1 [.int .i64 0,.int .i64 0,.string ⟨#[]⟩,.slice none 0 0] (by rfl) (by rfl) (World.news_of_block HZ) (by simp[Value.oneCell']) (by decide) (by unfold maxLen;omega) (by omega) J.big _ rfl ?_
       intro g cap We dN dO ku yV;refine hK.out _ _ trivial (fun _=>?_);clear hK K;(try simp only[Act.put,aT,aU,aV]);have xZ:Hid (I.grownBy We (V k).ownBlock):=by show World.grownBy _ _ _;rw[HV];exact dO
       have ag:Hid ((V k).ownBlock=some g∨g=I.heap.size):=by show _∨_;rw[HV];exact ku
       have D:=Hd dN
       have ax:g≠R:=by
        rcases ag.out with h|h
        ·exact(J.own.lt k kL g h).2.2
        ·have:=J.bN.lt;omega
       have MU:Hid (∀j,j<8→j≠k→(V j).ownBlock≠some g):=fun j hj hne e=>by
        rcases ag.out with h|h
        ·exact J.own.ap j k hj kL hne g e h
        ·have:=(J.own.lt j hj g e).2.1;omega
       first
        |(have ab:Hid (aD (fun q=>ws≤q∧q≠g) We A5 c5 t):=(vH.keep (S':=fun q=>ws≤q∧q≠g) Kr (fun q hq h=>⟨h,by
           rcases ag.out with h2|h2
           ·have:=a7 g h2;omega
           ·omega⟩)).keep ⟨xZ.size,fun q hq hl=>xZ.block q hl (fun e=>by have:=a7 q e.symm;omega)⟩ (fun _ _ h=>h)
          clear vH)
        |skip
       replace kY:Hid (ws≤We.heap.size):=Nat.le_trans kY xZ.size;replace J:=Hd (J.grown (k:=k) kL xZ ag);clear dN dO ku xZ ag yV HZ Ul I
       rename World=>I)
     |fail
    all_goals
     repeat
      (first|refine aI 0 (v:=?_) rfl ?hy ?_|refine aI 1 (v:=?_) rfl ?hy ?_|refine aI 2 (v:=?_) rfl ?hy ?_|refine aI 4 (v:=?_) rfl ?hy ?_|refine aI 6 (v:=?_) rfl ?hy ?_|refine aI 9 (v:=?_) rfl ?hy ?_|refine aI 11 (v:=?_) rfl ?hy ?_|refine aI 12 (v:=?_) rfl ?hy ?_
       case hy=>
        intro w0 hS;clear hS;go_simp
        (first|done|with_reducible rfl)
       try simp only[Act.put,aT,aU,aV])
   all_goals refine wpAnyH_done (by decide +kernel) ?_ _
   all_goals
    refine NoPanic.normal ?_
    first
     |(rw[a8,Rx (Ne.symm ax)]
       clear a8 fM;obtain⟨We,A_⟩:=aj ((((I.setCell ⟨g,O*4,none⟩ (.int .i64 t.op)).setCell ⟨g,O*4+1,none⟩ (.int .i64 t.num)).setCell ⟨g,O*4+2,none⟩ (.string t.name)).setCell ⟨g,O*4+3,none⟩ (.slice A5 n5 c5));have ho:Only (fun q=>q=g) I We:=by rw[A_];exact CP _ _ _ _
       have iC:We.ownsRow B 64 4 (.slice (some ⟨g,0,none⟩) (O+1) cap) (O+1) ((X k).flatten++[.int .i64 t.op,.int .i64 t.num,.string t.name,.slice A5 n5 c5]):=by rw[A_];exact qO D Pf
       replace ab:Hid (aD (fun q=>ws≤q∧q≠g) We A5 c5 t):=ab.keep (aR.cO ho (by simp)) (fun _ _ h=>h);replace J:=Hd (J.aside ho (fun _ h=>h.2) MU ax (D.lt g rfl).1);replace kY:Hid (ws≤We.heap.size):=Nat.le_trans kY ho.size;clear D;have D:=Hd iC;rw[←A_];clear A_ ho iC I
       rename World=>I)
     |skip
    obtain⟨WF,FU⟩:=aj (I.setCell ⟨R,3+k,none⟩ (.slice (some ⟨g,0,none⟩) (O+1) cap))
    have aF:=J.own.put (k:=k) (w':=I.setCell ⟨R,3+k,none⟩ (.slice (some ⟨g,0,none⟩) (O+1) cap)) (e:=(kC l k (i+1)).1) kL (by rw[a6,aS];exact D) (by rw[FP]) ax MU (fun _ h=>h.2) (S0:=fun q=>ws≤q∧q≠g) (by
     rw[HE,HK]
     exact⟨A5,c5,by rw[EP],ab⟩) (fun q _ h=>⟨by have:=KV.out;omega,by have:=BI.out;omega,h.2,fun j hj e=>by have:=SI j hj q e;omega⟩) (setAt _)
    have Ba:=J.bN.put (k:=k) kL (.slice (some ⟨g,0,none⟩) (O+1) cap);have az:Below B w (I.setCell ⟨R,3+k,none⟩ (.slice (some ⟨g,0,none⟩) (O+1) cap)):=J.mW.setCell jU _;have bp:=J.big;have bw:WF.heap.size=I.heap.size:=by rw[FU];simp
    rw[←FU]at aF Ba az;have gy:=Hd aF;have YC:=Hd Ba;have oU:=Hd az;rw[HK]at FU;simp only[Nat.reduceAdd]at FU;rw[←FU];clear aF Ba az FU;go_wp2_with fail;exact gI HF YC gy oU (HP.below oU HA) jU (by omega) (fun h=>by have:=Yy h;have:=HN.out;omega) _ (by first|exact Or.inl rfl|exact Or.inr rfl)
  ·rw[iN Y,iN Y]at hg;rw[iN Y,iN Y]at HF;have aa:=hg.2.2;have hm:bO l 4 [59] i 18=(i,18):=rfl;rw[←hm]at HF;have fA:Hid (DS w B R (some ⟨b,off,none⟩) l.length c V X G i 18 (fun _=>True) (EW B R V) w1):=⟨hg.1,HM.move (fun q _ hl hR=>hg.2.1.block q hl hR) (Nat.le_of_eq aa.symm),b_ (w:=w) ⟨hg.2.1.os,hg.2.1.tape,hg.2.1.output,Nat.le_of_eq aa.symm,hg.2.1.block⟩ jU ar,jU,by rw[aa];exact ar⟩;rw[dF Y];clear hg hm c0 c1 x0 x2 ao FQ ai aa;go_wp2_with fail;exact gI HF fA.bN fA.own fA.mW (HP.below fA.mW HA) jU fA.big (fun _=>by omega) _ (by first|exact Or.inl rfl|exact Or.inr rfl)
end Go.Proofs.YtkhoeoilamddaaaGreatDoor
