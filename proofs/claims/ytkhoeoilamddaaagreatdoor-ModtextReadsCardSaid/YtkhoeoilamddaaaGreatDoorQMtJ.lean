/- Walks and plain words: MtJ MtK. -/
import Derived.Test.YtkhoeoilamddaaaGreatDoorQMtG
namespace Go.Proofs.YtkhoeoilamddaaaGreatDoor
open Go.RowKit
set_option linter.unusedVariables false
set_option linter.unusedSimpArgs false
set_option maxRecDepth 100000
set_option maxHeartbeats 16000000
theorem sK{o:Array Oper}{i:Nat}{x:Oper}(h:o.toList[i]?=some x):o[i]?=some x:=by simpa using h
theorem ad9:(Tryz.prog.info? 74).map (fun i=>(i.zero,i.size,i.bytes))=some (some (.agg #[.string ⟨#[]⟩,.int .i64 0,.int .i64 0,.string ⟨#[]⟩,.slice none 0 0]),5,72):=by kernel_rfl
theorem ab3{l:List Tok}{i:Nat}{x:Int}(h:(dK l i x).2.2=0):(dK l i x).2.1≤l.length:=by
 unfold dK at h⊢
 by_cases hx:x≠0
 ·rw[iP hx]at h;exact absurd h hx
 ·rw[iN hx]at h⊢;exact(wM (l:=l) (i:=i) (t:=(iU l i).1) (j:=(iU l i).2.1) (by rw[←h])).2.jl
theorem aaZ{l:List Tok}{i:Nat}{x:Int}(h0:i≤l.length)(h:(lq l i x).2.2=0):(lq l i x).2.1≤l.length:=ab3 h
theorem aoL(k:Nat)(hk:k=1∨k=4)(R:Nat)(A:Option Addr)(c i B:Nat)(l:List Tok)(V:Nat→Value)(X:Nat→List (List Value))(G:Nat→List El)(w:World)(hw:ah l i 3 (ji k)=true)(hR:kF w R A l.length c i 0 V)(hP:iI w R A c l)(hM:BJ w B R V X G)(jU:B≤R)(hA:∀a,A=some a→a.block<B)(hG:(G k).length≤64) :
 Calls Tryz.prog 15 #[.pointer (some ⟨R,0,none⟩)] w (qg R A c l B w (if (G k).length<64 then bO l 4 [59] (kC l k (i+1)).2.1 (kC l k (i+1)).2.2 else(i,18)) (if (G k).length<64 then upd G k (G k++[(kC l k (i+1)).1])else G)):=by
 obtain⟨F,HF⟩:=ak (qg R A c l B w (if (G k).length<64 then bO l 4 [59] (kC l k (i+1)).2.1 (kC l k (i+1)).2.2 else(i,18)) (if (G k).length<64 then upd G k (G k++[(kC l k (i+1)).1])else G));rw[←HF];have kL:k<8:=by omega
 have hlen:=hP.len;have ax:=hP.cap;have aQ:=hP.bU;unfold maxLen at aQ;have HP:=Hd hP;obtain⟨b,off,Yw,bj,bl,bd,x0,x2⟩:=uL hP hw;obtain⟨a,cp,hV,a8,Yx⟩:=hM.shape (k:=k) kL;obtain⟨nk,FP⟩:=ak (G k).length;rw[←FP]at hV a8 hG HF;have af:=hR.cm (k:=k) kL;rw[hV]at af;have HV:=Hd hV;have HR:=Hd hR;have HM:=Hd hM;have c0:=hR.c0;have c1:=hR.c1;have fC:=hR.lt;have ag:B≤w.heap.size:=by omega
 have bf:0<l.length:=by omega
 have ae:Hid (∀W,kF W R A l.length c (i+1) 0 V→Below B w W→Calls Tryz.prog 41 #[.pointer (some ⟨R,0,none⟩)] W (fun e w'=>(∃A5 c5,e=.returned (MR (lq l (i+1) 0).1.1 (lq l (i+1) 0).1.2 A5 c5)∧aD (fun q=>W.heap.size≤q) w' A5 c5 (lq l (i+1) 0).1.2)∧Er R A l.length c V (lq l (i+1) 0).2.1 (lq l (i+1) 0).2.2 W w')):=fun W hr hb=>Ut R A c (i+1) l 0 V W hr (HP.below hb hA) (by omega) bf;have FQ:=Hd (fun m=>qL R A l.length c i nk V (w.drewN m) hR (by omega) (by omega));obtain⟨n,HN⟩:=ak l.length;rw[←HN]at c0 ax bd hlen;have bm:(0:Int)≤(i:Int):=by omega
 have bn:(i:Int)<(n:Int):=by omega
 have HA:=Hd hA;subst Yw;clear hA hV hR hP hM hw
 rcases hk with hk|hk
 all_goals
  have HK:=Hd hk;have aF:Hid (mT k=74):=by show _=_;rw[hk];rfl
  have aE:Hid (mS k=5):=by show _=_;rw[hk];rfl
  rw[hk]at x2 af;simp only[ji,kW,fE,Nat.reduceAdd]at x2 af;clear hk
  go_enter_defers Tryz.func15,Tryz.ntmps15
  go_wp2_with fail
  go_quiet (fail)
  go_wp2_with fail
  go_quiet (fail)
  go_wp2_with fail;refine(FQ _).mono ?_;rintro e w1 ⟨rfl,Y⟩
  by_cases I:nk<64
  ·rw[iP I,iP I]at Y;rw[iP I,iP I]at HF;have aP:decide (nk<64)=true:=decide_eq_true I;have J:=Y.2.2;have fA:Hid (DS w B R (some ⟨b,off,none⟩) l.length c V X G (i+1) 0 (fun _=>True) (EW B R V) w1):=⟨Y.1,HM.move (fun q _ hl hR=>Y.2.1.block q hl hR) (Nat.le_of_eq J.symm),b_ (w:=w) ⟨Y.2.1.os,Y.2.1.tape,Y.2.1.output,Nat.le_of_eq J.symm,Y.2.1.block⟩ jU ag,jU,by rw[J];exact ag⟩;clear Y;obtain⟨i0,bb,bg,bh,bi⟩:=info_parts ad9;have ru:Hid (kC l k (i+1)=(cD k ⟨(lq l (i+1) 0).1.1,(lq l (i+1) 0).1.2⟩,(lq l (i+1) 0).2)):=by show _=_;rw[HK];rfl
   have zy:Hid ((lq l (i+1) 0).2.2=0→(lq l (i+1) 0).2.1≤l.length):=aaZ (by have:=HN.out;omega)
   generalize lq l (i+1) 0=tt at ae ru zy
   obtain⟨⟨s,t⟩,j,y⟩:=tt;simp only at ae ru zy;have HE:Hid ((kC l k (i+1)).1=cD k ⟨s,t⟩):=by show _=_;rw[ru]
   have az:Hid ((kC l k (i+1)).2=(j,y)):=by show _=_;rw[ru]
   rw[az]at HF;simp only at HF;have Yy:=zy;clear ru az zy;rw[aP];clear aP;go_wp2_with fail;refine wp_region_noPanic ?_;refine wp_region_held_drew (S:=fun _=>True) (by kernel_rfl) trivial (fun _=>?_);have hT:True:=trivial;have Yz:(0:Int)≤(nk:Int):=by omega
   have YA:(nk:Int)<(nk:Int)+1:=by omega
   obtain⟨O,ai⟩:=aj w1.drew;have D:Hid (DS w B R (some ⟨b,off,none⟩) l.length c V X G (i+1) 0 (fun _=>True) (EW B R V) O):=by show DS _ _ _ _ _ _ _ _ _ _ _ _ _ _;rw[ai];exact fA.only (fA.bN.drewN 1) (Only.refl.drewN 1)
   obtain⟨ws,aa⟩:=aj w1.heap.size;have kY:Hid (ws≤O.heap.size):=by show _≤_;rw[aa,ai];exact lr _
   have aJ:Hid (∀q,(V k).ownBlock=some q→q<ws):=fun q hq=>by rw[aa];exact(fA.own.lt k kL q hq).2.1
   have SI:Hid (∀j,j<8→∀q,(V j).ownBlock=some q→q<ws):=fun j hj q hq=>by rw[aa];exact(fA.own.lt j hj q hq).2.1
   have KV:Hid (B≤ws):=by show _≤_;rw[aa];exact fA.big
   have BI:Hid (R<ws):=by show _<_;rw[aa];exact fA.bN.lt
   have HT:=ae;rw[←ai];clear ai aa fA ae c0 c1 x0 x2 af FQ J
   repeat
    (first|refine aI 0 (v:=?_) rfl ?hy ?_|refine aI 1 (v:=?_) rfl ?hy ?_|refine aI 2 (v:=?_) rfl ?hy ?_|refine aI 3 (v:=?_) rfl ?hy ?_|refine aI 5 (v:=?_) rfl ?hy ?_|refine aI 9 (v:=?_) rfl ?hy ?_|refine aI 10 (v:=?_) rfl ?hy ?_
     case hy=>
      intro w0 hS;clear hS;go_simp
      (first|done|with_reducible rfl)
     try simp only[Act.put,aT,aU,aV])
   iterate 5
    all_goals first
     |refine Rd (rs:=[4,6]) (by decide +kernel) (by simp) (Rc (sK rfl) (fun K hK=>?_) (Rc (sK rfl) (fun K hK=>?_) Rn))
     |refine Rd (rs:=[4,7]) (by decide +kernel) (by simp) (Rc (sK rfl) (fun K hK=>?_) (Rc (sK rfl) (fun K hK=>?_) Rn))
     |refine Rd (rs:=[6]) (by decide +kernel) (by simp) (Rc (sK rfl) (fun K hK=>?_) Rn)
     |refine Rd (rs:=[7]) (by decide +kernel) (by simp) (Rc (sK rfl) (fun K hK=>?_) Rn)
     |refine Rd (rs:=[4]) (by decide +kernel) (by simp) (Rc (sK rfl) (fun K hK=>?_) Rn)
     |refine Rd (rs:=[8]) (by decide +kernel) (by simp) (Rc (sK rfl) (fun K hK=>?_) Rn)
     |refine Rd (rs:=[11]) (by decide +kernel) (by simp) (Rc (sK rfl) (fun K hK=>?_) Rn)
     |fail
    all_goals first
     |(refine Tj ?_
       have y3:=D.bN.cm (k:=k) kL;rw[HV,HK]at y3;simp only[Nat.reduceAdd]at y3;go_simp;clear y3;refine hK.out _ O trivial (fun _=>?_);clear hK K
       try simp only[Act.put,aT,aU,aV])
     |(refine WE ?_
       go_simp;(with_reducible refine(HT.out _ D.out.bN D.out.mW).mono ?_);rintro e We ⟨⟨A5,c5,rfl,a6⟩,ar⟩;simp only[MR];obtain⟨n5,EP⟩:=ak t.kids.length;rw[←EP];refine hK.out _ _ trivial (fun _=>?_);clear hK K;(try simp only[Act.put,aT,aU,aV]);have aS:=ar.2.size;have vH:Hid (aD (fun q=>ws≤q) We A5 c5 t):=a6.keep Kr (fun q _ h=>by have:=kY.out;omega);clear a6;replace D:=Hd (D.only ar.1 ar.2);replace kY:Hid (ws≤We.heap.size):=Nat.le_trans kY aS;clear ar aS O
       rename World=>O)
     |(refine QI ?_
       go_simp;refine hK.out _ (O.alloc (.cells #[.string s,.int .i64 t.op,.int .i64 t.num,.string t.name,.slice A5 n5 c5] 74)) trivial (fun _=>?_);clear hK K;(try simp only[Act.put,aT,aU,aV]);obtain⟨z,hz⟩:=aj O.heap.size;obtain⟨We,hV⟩:=aj (O.alloc (.cells #[.string s,.int .i64 t.op,.int .i64 t.num,.string t.name,.slice A5 n5 c5] 74));have ao:=dz hV;have HZ:=jZ hV hz;replace vH:Hid (aD (fun q=>ws≤q) We A5 c5 t):=vH.keep (Kb ao) (fun _ _ h=>h);replace D:=Hd (D.below ao);replace kY:Hid (ws≤We.heap.size):=Nat.le_trans kY ao.size;rw[←hV,←hz];clear hV hz ao O
       rename World=>O)
     |(refine Gw ?_
       have y3:=D.bN.cm (k:=k) kL;have f3:=D.bN.frozen (3+k);have FT:=D.bN.lt;rw[HK]at y3 f3;simp only[Nat.reduceAdd]at y3 f3;go_simp;clear y3 f3 FT;refine hK.out _ _ trivial (fun _=>?_);clear hK K
       try simp only[Act.put,aT,aU,aV])
     |(refine step_append_lies _ (by rfl) _ _ _ (by rfl) B 74 i0 (.agg #[.string ⟨#[]⟩,.int .i64 0,.int .i64 0,.string ⟨#[]⟩,.slice none 0 0]) 5 72 Tryz.underlying24 bb bg bh bi rfl (by decide) (.slice a nk cp) nk (X k).flatten (by rfl) (by have h:=D.own.own k kL trivial;rw[HV,←FP,aF,aE]at h;exact h) ⟨z,0,none⟩ 1 1 [.string s,.int .i64 t.op,.int .i64 t.num,.string t.name,.slice A5 n5 c5] (by rfl) (by rfl) (World.news_of_block HZ) (by simp[Value.oneCell']) (by decide) (by unfold maxLen;omega) (by omega) D.big _ rfl ?_
       intro g cap We dN dO ku yV;refine hK.out _ _ trivial (fun _=>?_);clear hK K;(try simp only[Act.put,aT,aU,aV]);have xZ:Hid (O.grownBy We (V k).ownBlock):=by show World.grownBy _ _ _;rw[HV];exact dO
       have ab:Hid ((V k).ownBlock=some g∨g=O.heap.size):=by show _∨_;rw[HV];exact ku
       have av:=Hd dN
       have ba:g≠R:=by
        rcases ab.out with h|h
        ·exact(D.own.lt k kL g h).2.2
        ·have:=D.bN.lt;omega
       have MU:Hid (∀j,j<8→j≠k→(V j).ownBlock≠some g):=fun j hj hne e=>by
        rcases ab.out with h|h
        ·exact D.own.ap j k hj kL hne g e h
        ·have:=(D.own.lt j hj g e).2.1;omega
       have a7:Hid (aD (fun q=>ws≤q∧q≠g) We A5 c5 t):=(vH.keep (S':=fun q=>ws≤q∧q≠g) Kr (fun q hq h=>⟨h,by
        rcases ab.out with h2|h2
        ·have:=aJ g h2;omega
        ·omega⟩)).keep ⟨xZ.size,fun q hq hl=>xZ.block q hl (fun e=>by have:=aJ q e.symm;omega)⟩ (fun _ _ h=>h)
       clear vH;replace kY:Hid (ws≤We.heap.size):=Nat.le_trans kY xZ.size;replace D:=Hd (D.grown (k:=k) kL xZ ab);clear dN dO ku xZ ab yV HZ O
       rename World=>O)
     |fail
    all_goals
     repeat
      (first|refine aI 0 (v:=?_) rfl ?hy ?_|refine aI 1 (v:=?_) rfl ?hy ?_|refine aI 2 (v:=?_) rfl ?hy ?_|refine aI 3 (v:=?_) rfl ?hy ?_|refine aI 5 (v:=?_) rfl ?hy ?_|refine aI 9 (v:=?_) rfl ?hy ?_|refine aI 10 (v:=?_) rfl ?hy ?_
       case hy=>
        intro w0 hS;clear hS;go_simp
        (first|done|with_reducible rfl)
       try simp only[Act.put,aT,aU,aV])
   all_goals refine wpAnyH_done (by decide +kernel) ?_ _
   all_goals
    refine NoPanic.normal ?_;obtain⟨WF,FU⟩:=aj (O.setCell ⟨R,3+k,none⟩ (.slice (some ⟨g,0,none⟩) (nk+1) cap))
    have ay:=D.own.put (k:=k) (w':=O.setCell ⟨R,3+k,none⟩ (.slice (some ⟨g,0,none⟩) (nk+1) cap)) (e:=(kC l k (i+1)).1) kL (by rw[aF,aE];exact av) (by rw[FP]) ba MU (fun _ h=>h.2) (S0:=fun q=>ws≤q∧q≠g) (by
     rw[HE,HK]
     exact⟨_,rfl,A5,c5,by rw[EP],a7⟩) (fun q _ h=>⟨by have:=KV.out;omega,by have:=BI.out;omega,h.2,fun j hj e=>by have:=SI j hj q e;omega⟩) (setAt _)
    have Ba:=D.bN.put (k:=k) kL (.slice (some ⟨g,0,none⟩) (nk+1) cap);have aw:Below B w (O.setCell ⟨R,3+k,none⟩ (.slice (some ⟨g,0,none⟩) (nk+1) cap)):=D.mW.setCell jU _;have bk:=D.big;have bo:WF.heap.size=O.heap.size:=by rw[FU];simp
    rw[←FU]at ay Ba aw;have gy:=Hd ay;have YC:=Hd Ba;have oU:=Hd aw;rw[HK]at FU;simp only[Nat.reduceAdd]at FU;rw[←FU];clear ay Ba aw FU;go_wp2_with fail;exact gI HF YC gy oU (HP.below oU HA) jU (by omega) (fun h=>by have:=Yy h;have:=HN.out;omega) _ (by first|exact Or.inl rfl|exact Or.inr rfl)
  ·rw[iN I,iN I]at Y;rw[iN I,iN I]at HF;have J:=Y.2.2;have hm:bO l 4 [59] i 18=(i,18):=rfl;rw[←hm]at HF;have fA:Hid (DS w B R (some ⟨b,off,none⟩) l.length c V X G i 18 (fun _=>True) (EW B R V) w1):=⟨Y.1,HM.move (fun q _ hl hR=>Y.2.1.block q hl hR) (Nat.le_of_eq J.symm),b_ (w:=w) ⟨Y.2.1.os,Y.2.1.tape,Y.2.1.output,Nat.le_of_eq J.symm,Y.2.1.block⟩ jU ag,jU,by rw[J];exact ag⟩;rw[dF I];clear Y hm c0 c1 x0 x2 af FQ ae J;go_wp2_with fail;exact gI HF fA.bN fA.own fA.mW (HP.below fA.mW HA) jU fA.big (fun _=>by omega) _ (by first|exact Or.inl rfl|exact Or.inr rfl)
theorem PG{o:Array Oper}{i:Nat}{x:Oper}(h:o.toList[i]?=some x):o[i]?=some x:=by simpa using h
theorem ahQ:(Tryz.prog.info? 69).map (fun i=>(i.zero,i.size,i.bytes))=some (some (.agg #[.string ⟨#[]⟩,.int .i64 0,.int .i64 0,.int .i64 0,.string ⟨#[]⟩,.slice none 0 0,.slice none 0 0]),7,104):=by kernel_rfl
section
variable {w w':World} {B R:Nat} {V:Nat→Value} {X:Nat→List (List Value)} {G:Nat→List El} {D S:Nat→Prop}
theorem qZ.YM{b:Nat}(h:qZ w B R V X G D S)(J:Only (fun q=>q=b) w w')(hb:∀q,S q→q≠b)(Y:∀j,j<8→(V j).ownBlock≠some b):qZ w' B R V X G D S:=
 ⟨fun j I O=>oC (h.own j I O) (fun q hq=>J.block q (h.lt j I q hq).2.1 (fun e=>Y j I (e ▸ hq))),
  fun j I=>(h.vals j I).keep ⟨J.size,fun q hq hl=>J.block q hl (hb q hq)⟩ (fun _ _ h=>h),h.sub,
  fun j I q hq=>⟨(h.lt j I q hq).1,lL (h.lt j I q hq).2.1 J.size,(h.lt j I q hq).2.2⟩,h.ap⟩
theorem qZ.fresh{b:Nat}(h:qZ w B R V X G D S)(hb:Below w.heap.size w w')(he:b=w.heap.size):qZ w' B R V X G D (fun q=>S q∧q≠b):=
 ⟨fun j I J=>oC (h.own j I J) (fun q hq=>hb.block q (h.lt j I q hq).2.1),
  fun j I=>(h.vals j I).keep ⟨hb.size,fun q hq O=>hb.block q O⟩ (fun q O h=>⟨h,by omega⟩),fun q hq=>h.sub q hq.1,
  fun j I q hq=>⟨(h.lt j I q hq).1,lL (h.lt j I q hq).2.1 hb.size,(h.lt j I q hq).2.2⟩,h.ap⟩
variable {W W' w0:World} {n c i b:Nat} {A:Option Addr} {x:Int}
theorem DS.fresh(h:DS w0 B R A n c V X G i x D S W)(hb:Below W.heap.size W W')(he:b=W.heap.size):DS w0 B R A n c V X G i x D (fun q=>S q∧q≠b) W':=⟨h.bN.below hb h.bN.lt,h.own.fresh hb he,(h.below hb).mW,h.bR,Nat.le_trans h.big hb.size⟩
theorem DS.YM(h:DS w0 B R A n c V X G i x D S W)(I:Only (fun q=>q=b) W W')(hb:∀q,S q→q≠b)(Y:∀j,j<8→(V j).ownBlock≠some b)(J:b≠R)(O:B≤b):DS w0 B R A n c V X G i x D S W':=
 ⟨(I.block R h.bN.lt (fun e=>J e.symm)).trans h.bN,h.own.YM I hb Y,h.mW.trans ⟨I.os,I.tape,I.output,I.size,fun q hq=>I.block q (by have:=h.big;omega) (by omega)⟩,h.bR,Nat.le_trans h.big I.size⟩
end
theorem ad_{l:List Tok}{i:Nat}{x:Int}(h:(ow l i x).2.2=0):(ow l i x).2.1≤l.length:=by
 unfold ow at h⊢
 by_cases hx:x≠0
 ·rw[iP hx]at h;exact absurd h hx
 ·rw[iN hx]at h⊢;exact(GJ (l:=l) (i:=i) (f:=(nN l i).1) (j:=(nN l i).2.1) (by rw[←h])).2.jl
theorem aea{W:World}{b:Nat}(v1 v2 v3 v4 v5 v6:Value):Only (fun q=>q=b) W ((((((W.setCell ⟨b,1,none⟩ v1).setCell ⟨b,2,none⟩ v2).setCell ⟨b,3,none⟩ v3).setCell ⟨b,4,none⟩ v4).setCell ⟨b,5,none⟩ v5).setCell ⟨b,6,none⟩ v6):=((((((setAt _).trans (setAt _)).trans (setAt _)).trans (setAt _)).trans (setAt _)).trans (setAt _))
theorem akD{W:World}{b:Nat}{D G I J O Y u6 v1 v2 v3 v4 v5 v6:Value}{T:TypeId}(h:W.heap[b]?=some (.cells #[D,G,I,J,O,Y,u6] T (0,0))):((((((W.setCell ⟨b,1,none⟩ v1).setCell ⟨b,2,none⟩ v2).setCell ⟨b,3,none⟩ v3).setCell ⟨b,4,none⟩ v4).setCell ⟨b,5,none⟩ v5).setCell ⟨b,6,none⟩ v6).heap[b]?=some (.cells #[D,v1,v2,v3,v4,v5,v6] T (0,0)):=by
 simp[World.setCell,Array.getElem?_modify,h]
theorem YN(R:Nat)(A:Option Addr)(c i B:Nat)(l:List Tok)(V:Nat→Value)(X:Nat→List (List Value))(G:Nat→List El)(w:World)(hw:ah l i 3 (ji 7)=true)(hR:kF w R A l.length c i 0 V)(hP:iI w R A c l)(hM:BJ w B R V X G)(jU:B≤R)(hA:∀a,A=some a→a.block<B)(hG:(G 7).length≤64) :
 Calls Tryz.prog 15 #[.pointer (some ⟨R,0,none⟩)] w (qg R A c l B w (if (G 7).length<64 then bO l 4 [59] (kC l 7 (i+1)).2.1 (kC l 7 (i+1)).2.2 else(i,18)) (if (G 7).length<64 then upd G 7 (G 7++[(kC l 7 (i+1)).1])else G)):=by
 obtain⟨F,HF⟩:=ak (qg R A c l B w (if (G 7).length<64 then bO l 4 [59] (kC l 7 (i+1)).2.1 (kC l 7 (i+1)).2.2 else(i,18)) (if (G 7).length<64 then upd G 7 (G 7++[(kC l 7 (i+1)).1])else G));rw[←HF];have hlen:=hP.len;have aP:=hP.cap;have aQ:=hP.bU;unfold maxLen at aQ;have HP:=Hd hP;obtain⟨b,off,Yw,bC,bJ,bo,bj,a8⟩:=uL hP hw;obtain⟨a,cp,hV,bl,Yx⟩:=hM.shape (k:=7) (by omega);obtain⟨nk,FP⟩:=ak (G 7).length;rw[←FP]at hV bl hG HF;have ax:=hR.cm (k:=7) (by omega);rw[hV]at ax;have HV:=Hd hV;have HR:=Hd hR;have HM:=Hd hM;have c0:=hR.c0;have c1:=hR.c1;have fC:=hR.lt;have av:B≤w.heap.size:=by omega
 have br:0<l.length:=by omega
 have Iz:=Hd (fun W (hr:kF W R A l.length c (i+1) 0 V) (hb:Below B w W)=>I9 R A c (i+1) l 0 V W hr (HP.below hb hA) (by omega));have ao:=Hf (x:=0) (show i+1≤l.length by omega);have ru:Hid (kC l 7 (i+1)=(.spec ⟨(bX l (i+1) 0).1,(ow l (bO l 4 [58] (bX l (i+1) 0).2.1 (bX l (i+1) 0).2.2).1 (bO l 4 [58] (bX l (i+1) 0).2.1 (bX l (i+1) 0).2.2).2).1⟩,(ow l (bO l 4 [58] (bX l (i+1) 0).2.1 (bX l (i+1) 0).2.2).1 (bO l 4 [58] (bX l (i+1) 0).2.1 (bX l (i+1) 0).2.2).2).2)):=rfl
 generalize bX l (i+1) 0=na at Iz ao ru
 obtain⟨s,i1,x1⟩:=na;have Rw:=Hd (fun W (hr:kF W R A l.length c i1 x1 V) (hb:Below B w W)=>DU R A c i1 l x1 V 4 ⟨#[58]⟩ W hr (HP.below hb hA) (fun _=>by simp only at ao;omega));rw[show bs ⟨#[58]⟩=[58]from rfl]at Rw;have aS:=zX (l:=l) (k:=4) (s:=[58]) (x:=x1) ao
 generalize bO l 4 [58] i1 x1=nb at Rw aS ru
 obtain⟨i2,x2⟩:=nb;have ag:=Hd (fun W (hr:kF W R A l.length c i2 x2 V) (hb:Below B w W)=>ab2 R A c i2 l x2 V W hr (HP.below hb hA) aS br);have FQ:=Hd (fun m=>qL R A l.length c i nk V (w.drewN m) hR (by omega) (by omega));obtain⟨n,HN⟩:=ak l.length;rw[←HN]at c0 aP bo hlen;have bL:(0:Int)≤(i:Int):=by omega
 have bP:(i:Int)<(n:Int):=by omega
 have HA:=Hd hA;subst Yw;clear hA hV hR hP hM hw;simp only[ji,pI,Nat.reduceAdd]at a8 ax
 go_enter_defers Tryz.func15,Tryz.ntmps15
 go_wp2_with fail
 go_quiet (fail)
 go_wp2_with fail
 go_quiet (fail)
 go_wp2_with fail;refine(FQ _).mono ?_;rintro e w1 ⟨rfl,I⟩
 by_cases Y:nk<64
 ·rw[iP Y,iP Y]at I;rw[iP Y,iP Y]at HF;have bi:decide (nk<64)=true:=decide_eq_true Y;have aa:=I.2.2;have fA:Hid (DS w B R (some ⟨b,off,none⟩) l.length c V X G (i+1) 0 (fun _=>True) (EW B R V) w1):=⟨I.1,HM.move (fun q _ hl hR=>I.2.1.block q hl hR) (Nat.le_of_eq aa.symm),b_ (w:=w) ⟨I.2.1.os,I.2.1.tape,I.2.1.output,Nat.le_of_eq aa.symm,I.2.1.block⟩ jU av,jU,by rw[aa];exact av⟩;clear I;obtain⟨i0,bn,bu,bv,bw⟩:=info_parts ahQ;have zy:Hid ((ow l i2 x2).2.2=0→(ow l i2 x2).2.1≤l.length):=ad_
  generalize ow l i2 x2=tt at ag ru zy
  obtain⟨t,j,y⟩:=tt;simp only at ag ru zy Iz Rw ao;have HE:Hid ((kC l 7 (i+1)).1=.spec ⟨s,t⟩):=by show _=_;rw[ru]
  have ba:Hid ((kC l 7 (i+1)).2=(j,y)):=by show _=_;rw[ru]
  rw[ba]at HF;simp only at HF;have Yy:=zy;clear ru ba zy;rw[bi];clear bi;obtain⟨ws,af⟩:=aj w1.heap.size;have bg:Hid (ws≤w1.heap.size):=by show _≤_;rw[af];exact lr _
  have ar:Hid (∀q,(V 7).ownBlock=some q→q<ws):=fun q hq=>by rw[af];exact(fA.own.lt 7 (by omega) q hq).2.1
  have SI:Hid (∀j,j<8→∀q,(V j).ownBlock=some q→q<ws):=fun j hj q hq=>by rw[af];exact(fA.own.lt j hj q hq).2.1
  have KV:Hid (B≤ws):=by show _≤_;rw[af];exact fA.big
  have BI:Hid (R<ws):=by show _<_;rw[af];exact fA.bN.lt
  clear af c0 c1 bj a8 ax FQ aa ao aS;go_wp2_with fail;refine(Iz _ fA.bN fA.mW).mono ?_;rintro e w2 ⟨rfl,I⟩;have bb:=Hd (fA.only I.1 I.2.1);have bf:Hid (w1.heap.size=w2.heap.size):=I.2.2.symm;clear I Iz;go_wp2_with fail;obtain⟨O,aw⟩:=aj w2.heap.size;obtain⟨w3,ay⟩:=aj (w2.alloc (.cells #[.string s,.int .i64 0,.int .i64 0,.int .i64 0,.string ⟨#[]⟩,.slice none 0 0,.slice none 0 0] 69));have J:=jZ ay aw;have Oc:=Hd (bb.fresh (dz ay) aw);have bz:ws≤O:=by have:=bg.out;have:=bf.out;omega
  rw[←ay,←aw];clear ay aw bf;refine(Rw _ Oc.bN Oc.mW).mono ?_;rintro e w4 ⟨rfl,I⟩;have aF:O≠R:=by have:=BI.out;omega
  replace J:=Hd ((I.2.1.block O (lH J) aF).trans J);have zQ:=Hd (Oc.only I.1 I.2.1);clear I Rw;go_wp2_with fail;refine(ag _ zQ.bN zQ.mW).mono ?_;rintro e w5 ⟨⟨x,rfl,hv⟩,I⟩;have vH:Hid (x.Is (fun q=>ws≤q∧q≠O) w5 t):=hv.keep Kr (fun q _ h=>by have:=lH J;omega);replace J:=Hd ((I.2.block O (lH J) aF).trans J);have bd:=Hd (zQ.only I.1 I.2);simp only[FV.val];obtain⟨k0,k1,k2,k3,k4,k5,k6,kz⟩:=q7 J;have bp:=lH J;clear hv I ag;go_wp2_with fail;clear k0 k1 k2 k3 k4 k5 k6 kz bp;obtain⟨w6,mV⟩:=aj (((((((w5.setCell ⟨O,1,none⟩ (.int .i64 x.o)).setCell ⟨O,2,none⟩ (.int .i64 x.tn)).setCell ⟨O,3,none⟩ (.int .i64 x.tm)).setCell ⟨O,4,none⟩ (.string x.s)).setCell ⟨O,5,none⟩ (.slice x.Ae x.ne x.ce)).setCell ⟨O,6,none⟩ (.slice x.A x.n x.c)));have iX:Only (fun q=>q=O) w5 w6:=by rw[mV];exact aea _ _ _ _ _ _
  replace J:Hid (w6.heap[O]?=some (.cells #[.string s,.int .i64 x.o,.int .i64 x.tn,.int .i64 x.tm,.string x.s,.slice x.Ae x.ne x.ce,.slice x.A x.n x.c] 69 (0,0))):=by show _=_;rw[mV];exact akD J
  have aE:=Hd (bd.YM iX (fun _ h=>h.2) (fun j hj e=>by have:=SI j hj O e;omega) aF (by have:=KV.out;omega));replace vH:Hid (x.Is (fun q=>ws≤q∧q≠O) w6 t):=vH.keep (aR.cO iX (by simp)) (fun _ _ h=>h);rw[←mV];clear mV iX;refine wp_region_noPanic ?_;refine wp_region_held_drew (S:=fun W=>W.heap[O]?=some (.cells #[.string s,.int .i64 x.o,.int .i64 x.tn,.int .i64 x.tm,.string x.s,.slice x.Ae x.ne x.ce,.slice x.A x.n x.c] 69 (0,0))) (by kernel_rfl) J (fun D=>?_);have Yz:(0:Int)≤(nk:Int):=by omega
  have YA:(nk:Int)<(nk:Int)+1:=by omega
  obtain⟨Wc,ab⟩:=aj w6.drew;have HS:=Hd (aE.only (W':=Wc) (by rw[ab];exact aE.bN.drewN 1) (by rw[ab];exact Only.refl.drewN 1));have kY:Hid (ws≤Wc.heap.size):=by show _≤_;have:=lH J;rw[ab];show ws≤w6.heap.size;omega
  replace vH:Hid (x.Is (fun q=>ws≤q∧q≠O) Wc t):=by show FV.Is _ _ _ _;rw[ab];exact vH.keep ⟨lr _,fun _ _ _=>rfl⟩ (fun _ _ h=>h)
  replace J:Hid (Wc.heap[O]?=some (.cells #[.string s,.int .i64 x.o,.int .i64 x.tn,.int .i64 x.tm,.string x.s,.slice x.Ae x.ne x.ce,.slice x.A x.n x.c] 69 (0,0))):=by show _=_;rw[ab];exact J
  rw[←ab]at D⊢;clear ab fA bb Oc zQ bd aE bg
  repeat
   (first|refine aI 0 (v:=?_) rfl ?hy ?_|refine aI 1 (v:=?_) rfl ?hy ?_|refine aI 2 (v:=?_) rfl ?hy ?_|refine aI 3 (v:=?_) rfl ?hy ?_|refine aI 5 (v:=?_) rfl ?hy ?_|refine aI 8 (v:=?_) rfl ?hy ?_|refine aI 9 (v:=?_) rfl ?hy ?_
    case hy=>
     intro w0 hS;obtain⟨k0,k1,k2,k3,k4,k5,k6,kz⟩:=q7 hS;clear hS;go_simp
     (first|done|with_reducible rfl)
    try simp only[Act.put,aT,aU,aV])
  iterate 4
   all_goals first
    |refine Rd (rs:=[4,6]) (by decide +kernel) (by simp) (Rc (PG rfl) (fun K hK=>?_) (Rc (PG rfl) (fun K hK=>?_) Rn))
    |refine Rd (rs:=[6]) (by decide +kernel) (by simp) (Rc (PG rfl) (fun K hK=>?_) Rn)
    |refine Rd (rs:=[4]) (by decide +kernel) (by simp) (Rc (PG rfl) (fun K hK=>?_) Rn)
    |refine Rd (rs:=[7]) (by decide +kernel) (by simp) (Rc (PG rfl) (fun K hK=>?_) Rn)
    |refine Rd (rs:=[10]) (by decide +kernel) (by simp) (Rc (PG rfl) (fun K hK=>?_) Rn)
    |fail
   all_goals first
    |(refine Tj ?_
      have y3:=HS.bN.cm (k:=7) (by omega);rw[HV]at y3;simp only[Nat.reduceAdd]at y3;go_simp;clear y3 D;refine hK.out _ Wc (J) (fun D=>?_);clear hK K
      try simp only[Act.put,aT,aU,aV])
    |(refine QI ?_
      go_simp;clear D;refine hK.out _ (Wc.alloc (.cells #[.string s,.int .i64 x.o,.int .i64 x.tn,.int .i64 x.tm,.string x.s,.slice x.Ae x.ne x.ce,.slice x.A x.n x.c] 69)) ((((Br _ _).alloc (lr _) _).block O (lH J)).trans J) (fun D=>?_);clear hK K;(try simp only[Act.put,aT,aU,aV]);obtain⟨z,hz⟩:=aj Wc.heap.size;obtain⟨We,hV⟩:=aj (Wc.alloc (.cells #[.string s,.int .i64 x.o,.int .i64 x.tn,.int .i64 x.tm,.string x.s,.slice x.Ae x.ne x.ce,.slice x.A x.n x.c] 69));have ai:=dz hV;have HZ:=jZ hV hz;replace vH:Hid (x.Is (fun q=>ws≤q∧q≠O) We t):=vH.keep (Kb ai) (fun _ _ h=>h);replace J:=kX ai J;replace HS:=Hd (HS.below ai);replace kY:Hid (ws≤We.heap.size):=Nat.le_trans kY ai.size;rw[←hV]at D;rw[←hV,←hz];clear hV hz ai D;have D:=J.out;clear Wc
      rename World=>Wc)
    |(refine Gw ?_
      have y3:=HS.bN.cm (k:=7) (by omega);have f3:=HS.bN.frozen (3+7);have FT:=HS.bN.lt;simp only[Nat.reduceAdd]at y3 f3;go_simp;clear y3 f3 FT D;refine hK.out _ _ ((iw Wc ⟨R,10,none⟩ O _ (by show O≠R;have:=BI.out;omega)).trans J) (fun D=>?_);clear hK K
      try simp only[Act.put,aT,aU,aV])
    |(refine step_append_lies _ (by rfl) _ _ _ (by rfl) B 69 i0 (.agg #[.string ⟨#[]⟩,.int .i64 0,.int .i64 0,.int .i64 0,.string ⟨#[]⟩,.slice none 0 0,.slice none 0 0]) 7 104 Tryz.underlying26 bn bu bv bw rfl (by decide) (.slice a nk cp) nk (X 7).flatten (by rfl) (by have h:=HS.own.own 7 (by omega) trivial;rw[HV,←FP]at h;exact h) ⟨z,0,none⟩ 1 1 [.string s,.int .i64 x.o,.int .i64 x.tn,.int .i64 x.tm,.string x.s,.slice x.Ae x.ne x.ce,.slice x.A x.n x.c] (by rfl) (by rfl) (World.news_of_block HZ) (by simp[Value.oneCell']) (by decide) (by unfold maxLen;omega) (by omega) HS.big _ rfl ?_
      intro g cap We dN dO ku yV;have a7:We.heap[O]?=some (.cells #[.string s,.int .i64 x.o,.int .i64 x.tn,.int .i64 x.tm,.string x.s,.slice x.Ae x.ne x.ce,.slice x.A x.n x.c] 69 (0,0)):=(dO.block O (lH J) (fun e=>by have:=ar O (by rw[HV];exact e.symm);omega)).trans J;clear D;refine hK.out _ We (a7) (fun D=>?_);clear hK K;(try simp only[Act.put,aT,aU,aV]);have xZ:Hid (Wc.grownBy We (V 7).ownBlock):=by show World.grownBy _ _ _;rw[HV];exact dO
      have ae:Hid ((V 7).ownBlock=some g∨g=Wc.heap.size):=by show _∨_;rw[HV];exact ku
      have az:=Hd dN
      have bm:g≠R:=by
       rcases ae.out with h|h
       ·exact(HS.own.lt 7 (by omega) g h).2.2
       ·have:=HS.bN.lt;omega
      have MU:Hid (∀j,j<8→j≠7→(V j).ownBlock≠some g):=fun j hj hne e=>by
       rcases ae.out with h|h
       ·exact HS.own.ap j 7 hj (by omega) hne g e h
       ·have:=(HS.own.lt j hj g e).2.1;omega
      have bk:Hid (x.Is (fun q=>ws≤q∧q≠g) We t):=(vH.keep (S':=fun q=>ws≤q∧q≠g) Kr (fun q hq h=>⟨h.1,by
       rcases ae.out with h2|h2
       ·have:=ar g h2;omega
       ·omega⟩)).keep ⟨xZ.size,fun q hq hl=>xZ.block q hl (fun e=>by have:=ar q e.symm;omega)⟩ (fun _ _ h=>h)
      clear vH;replace kY:Hid (ws≤We.heap.size):=Nat.le_trans kY xZ.size;have bh:Hid (O<Wc.heap.size):=lH J;replace HS:=Hd (HS.grown (k:=7) (by omega) xZ ae);clear J;have J:=Hd a7
      have BS:Hid (O≠g):=by
       rcases ae.out with h2|h2
       ·have:=ar g h2;show _≠_;omega
       ·have:=bh.out;show _≠_;omega
      clear dN dO ku xZ ae yV HZ D a7 bh Wc;rename World=>Wc
      have D:=J.out)
    |fail
   all_goals
    repeat
     (first|refine aI 0 (v:=?_) rfl ?hy ?_|refine aI 1 (v:=?_) rfl ?hy ?_|refine aI 2 (v:=?_) rfl ?hy ?_|refine aI 3 (v:=?_) rfl ?hy ?_|refine aI 5 (v:=?_) rfl ?hy ?_|refine aI 8 (v:=?_) rfl ?hy ?_|refine aI 9 (v:=?_) rfl ?hy ?_
      case hy=>
       intro w0 hS;obtain⟨k0,k1,k2,k3,k4,k5,k6,kz⟩:=q7 hS;clear hS;go_simp
       (first|done|with_reducible rfl)
      try simp only[Act.put,aT,aU,aV])
  all_goals refine wpAnyH_done (by decide +kernel) ?_ _
  all_goals
   refine NoPanic.normal ?_
   have a6:=HS.own.put (k:=7) (w':=Wc.setCell ⟨R,10,none⟩ (.slice (some ⟨g,0,none⟩) (nk+1) cap)) (e:=(kC l 7 (i+1)).1) (by omega) az (by rw[FP]) bm MU (fun _ h=>h.2) (S0:=fun q=>ws≤q∧q≠g) (by
    rw[HE]
    exact⟨x,rfl,bk⟩) (fun q _ h=>⟨by have:=KV.out;omega,by have:=BI.out;omega,h.2,fun j hj e=>by have:=SI j hj q e;omega⟩) (setAt _)
   have Ba:=HS.bN.put (k:=7) (by omega) (.slice (some ⟨g,0,none⟩) (nk+1) cap);have aJ:Below B w (Wc.setCell ⟨R,10,none⟩ (.slice (some ⟨g,0,none⟩) (nk+1) cap)):=HS.mW.setCell jU _;have bE:=HS.big;obtain⟨WF,FU⟩:=aj (Wc.setCell ⟨R,10,none⟩ (.slice (some ⟨g,0,none⟩) (nk+1) cap));have bW:WF.heap.size=Wc.heap.size:=by rw[FU];simp
   simp only[Nat.reduceAdd]at Ba;rw[←FU]at a6 Ba aJ⊢;have gy:=Hd a6;have YC:=Hd Ba;have oU:=Hd aJ;clear a6 Ba aJ FU;go_wp2_with fail;exact gI HF YC gy oU (HP.below oU HA) jU (by omega) (fun h=>by have:=Yy h;have:=HN.out;omega) _ (by first|exact Or.inl rfl|exact Or.inr rfl)
 ·rw[iN Y,iN Y]at I;rw[iN Y,iN Y]at HF;have aa:=I.2.2;have hm:bO l 4 [59] i 18=(i,18):=rfl;rw[←hm]at HF;have fA:Hid (DS w B R (some ⟨b,off,none⟩) l.length c V X G i 18 (fun _=>True) (EW B R V) w1):=⟨I.1,HM.move (fun q _ hl hR=>I.2.1.block q hl hR) (Nat.le_of_eq aa.symm),b_ (w:=w) ⟨I.2.1.os,I.2.1.tape,I.2.1.output,Nat.le_of_eq aa.symm,I.2.1.block⟩ jU av,jU,by rw[aa];exact av⟩;rw[dF Y];clear I hm c0 c1 bj a8 ax FQ ag aa;go_wp2_with fail;exact gI HF fA.bN fA.own fA.mW (HP.below fA.mW HA) jU fA.big (fun _=>by omega) _ (by first|exact Or.inl rfl|exact Or.inr rfl)
end Go.Proofs.YtkhoeoilamddaaaGreatDoor
